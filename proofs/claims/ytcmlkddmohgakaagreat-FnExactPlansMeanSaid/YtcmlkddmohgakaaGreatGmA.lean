/- Printed: for each function that the statement reaches, a plain function, and that it is what the program's function answers. -/
import Derived.Test.YtcmlkddmohgakaaGreatProg
import Derived.Test.YtcmlkddmohgakaaGreatTrmC
set_option linter.all false
namespace Go.Proofs.YtcmlkddmohgakaaGreatX
open Go Go.Proofs Go.Proofs.YtcmlkddmohgakaaGreatT
set_option maxRecDepth 100000
set_option linter.all false
abbrev STable := ByteArray × Int × Unit
abbrev SNode := Int × ByteArray × Int × Int × Int × Bool × (List Int) × Unit
abbrev SStep := Int × Int × Unit
abbrev SOp := Int × (List SNode) × (List SNode) × (List SStep) × Unit
def ttL : List (Nat × Ty) := [(3, (.int .i64)),
  (4, .bool),
  (9, .str),
  (22, (.sl 96 (.pr .str (.pr (.int .i64) .un)))),
  (23, (.sl 98 (.pr (.int .i64) (.pr .str (.pr (.int .i64) (.pr (.int .i64) (.pr (.int .i64) (.pr .bool (.pr (.sl 3 (.int .i64)) .un))))))))),
  (27, (.sl 99 (.pr .str (.pr (.int .i64) .un)))),
  (29, (.sl 79 (.pr (.int .i64) (.pr .str (.pr (.int .i64) (.pr (.int .i64) (.pr (.int .i64) (.pr .bool (.pr (.sl 3 (.int .i64)) .un))))))))),
  (34, (.sl 53 (.sl 77 (.sl 3 (.int .i64))))),
  (45, (.pr (.int .i64) (.pr (.int .i64) .un))),
  (53, (.sl 77 (.sl 3 (.int .i64)))),
  (57, (.sl 132 (.pr (.int .i64) (.pr (.sl 98 (.pr (.int .i64) (.pr .str (.pr (.int .i64) (.pr (.int .i64) (.pr (.int .i64) (.pr .bool (.pr (.sl 3 (.int .i64)) .un)))))))) (.pr (.sl 98 (.pr (.int .i64) (.pr .str (.pr (.int .i64) (.pr (.int .i64) (.pr (.int .i64) (.pr .bool (.pr (.sl 3 (.int .i64)) .un)))))))) (.pr (.sl 217 (.pr (.int .i64) (.pr (.int .i64) .un))) .un)))))),
  (58, (.sl 23 (.sl 98 (.pr (.int .i64) (.pr .str (.pr (.int .i64) (.pr (.int .i64) (.pr (.int .i64) (.pr .bool (.pr (.sl 3 (.int .i64)) .un)))))))))),
  (62, (.sl 134 (.pr (.int .i64) (.pr (.sl 79 (.pr (.int .i64) (.pr .str (.pr (.int .i64) (.pr (.int .i64) (.pr (.int .i64) (.pr .bool (.pr (.sl 3 (.int .i64)) .un)))))))) (.pr (.sl 79 (.pr (.int .i64) (.pr .str (.pr (.int .i64) (.pr (.int .i64) (.pr (.int .i64) (.pr .bool (.pr (.sl 3 (.int .i64)) .un)))))))) (.pr (.sl 45 (.pr (.int .i64) (.pr (.int .i64) .un))) .un)))))),
  (64, (.sl 29 (.sl 79 (.pr (.int .i64) (.pr .str (.pr (.int .i64) (.pr (.int .i64) (.pr (.int .i64) (.pr .bool (.pr (.sl 3 (.int .i64)) .un)))))))))),
  (71, (.sl 45 (.pr (.int .i64) (.pr (.int .i64) .un)))),
  (77, (.sl 3 (.int .i64))),
  (79, (.pr (.int .i64) (.pr .str (.pr (.int .i64) (.pr (.int .i64) (.pr (.int .i64) (.pr .bool (.pr (.sl 3 (.int .i64)) .un)))))))),
  (96, (.pr .str (.pr (.int .i64) .un))),
  (98, (.pr (.int .i64) (.pr .str (.pr (.int .i64) (.pr (.int .i64) (.pr (.int .i64) (.pr .bool (.pr (.sl 3 (.int .i64)) .un)))))))),
  (99, (.pr .str (.pr (.int .i64) .un))),
  (130, (.sl 217 (.pr (.int .i64) (.pr (.int .i64) .un)))),
  (132, (.pr (.int .i64) (.pr (.sl 98 (.pr (.int .i64) (.pr .str (.pr (.int .i64) (.pr (.int .i64) (.pr (.int .i64) (.pr .bool (.pr (.sl 3 (.int .i64)) .un)))))))) (.pr (.sl 98 (.pr (.int .i64) (.pr .str (.pr (.int .i64) (.pr (.int .i64) (.pr (.int .i64) (.pr .bool (.pr (.sl 3 (.int .i64)) .un)))))))) (.pr (.sl 217 (.pr (.int .i64) (.pr (.int .i64) .un))) .un))))),
  (134, (.pr (.int .i64) (.pr (.sl 79 (.pr (.int .i64) (.pr .str (.pr (.int .i64) (.pr (.int .i64) (.pr (.int .i64) (.pr .bool (.pr (.sl 3 (.int .i64)) .un)))))))) (.pr (.sl 79 (.pr (.int .i64) (.pr .str (.pr (.int .i64) (.pr (.int .i64) (.pr (.int .i64) (.pr .bool (.pr (.sl 3 (.int .i64)) .un)))))))) (.pr (.sl 45 (.pr (.int .i64) (.pr (.int .i64) .un))) .un))))),
  (217, (.pr (.int .i64) (.pr (.int .i64) .un))),
  (222, (.int .u64))]
def tt (T : TypeId) : Option Ty := lkT ttL T
theorem tt_ok : TTok Tryz.prog tt := lkT_ok (by kernel_rfl)
noncomputable def i_laws_FnExactPlansMean : Inst := { f := 9, fn := Tryz.f9, n := 81, pds := [.rd (.sl 96 (.pr .str (.pr (.int .i64) .un))), .rd (.sl 53 (.sl 77 (.sl 3 (.int .i64)))), .rd (.sl 132 (.pr (.int .i64) (.pr (.sl 98 (.pr (.int .i64) (.pr .str (.pr (.int .i64) (.pr (.int .i64) (.pr (.int .i64) (.pr .bool (.pr (.sl 3 (.int .i64)) .un)))))))) (.pr (.sl 98 (.pr (.int .i64) (.pr .str (.pr (.int .i64) (.pr (.int .i64) (.pr (.int .i64) (.pr .bool (.pr (.sl 3 (.int .i64)) .un)))))))) (.pr (.sl 217 (.pr (.int .i64) (.pr (.int .i64) .un))) .un))))), .rd (.sl 23 (.sl 98 (.pr (.int .i64) (.pr .str (.pr (.int .i64) (.pr (.int .i64) (.pr (.int .i64) (.pr .bool (.pr (.sl 3 (.int .i64)) .un)))))))))], caps := [], res := [⟨false, false, .bool⟩], h := { al := [53, 54, 55, 56, 61, 66, 71, 76], el := [], tk := [], nn := [], ca := [(18, 1), (23, 3), (28, 6), (33, 11), (37, 12), (39, 14), (41, 17), (43, 23), (44, 24), (46, 12), (48, 14), (50, 17), (52, 23), (57, 56), (63, 12), (64, 114), (68, 14), (69, 116), (73, 17), (74, 119), (78, 23), (79, 125)], code := .nil } }
noncomputable def i_laws_szTableS : Inst := { f := 15, fn := Tryz.f15, n := 27, pds := [.rd (.sl 96 (.pr .str (.pr (.int .i64) .un))), .rd (.int .i64)], caps := [], res := [⟨false, false, (.int .i64)⟩], h := { al := [], el := [], tk := [], nn := [], ca := [(23, 2)], code := (.two .nil (.two .nil (.two .nil (.join ⟨[1, 4], [(1, .v ⟨false, false, (.int .i64)⟩), (4, .v ⟨false, false, (.int .i64)⟩)]⟩ (.two .nil (.loop ⟨[1, 4, 5], [(1, .v ⟨false, false, (.int .i64)⟩), (4, .v ⟨false, false, (.int .i64)⟩), (5, .v ⟨false, false, (.int .i64)⟩)]⟩ .nil)) .nil)))) } }
noncomputable def i_laws_szTable : Inst := { f := 72, fn := Tryz.f72, n := 13, pds := [.rd (.pr .str (.pr (.int .i64) .un)), .rd (.int .i64)], caps := [], res := [⟨false, false, (.int .i64)⟩], h := { al := [], el := [], tk := [], nn := [], ca := [], code := .nil } }
noncomputable def i_laws_szIntSSS : Inst := { f := 27, fn := Tryz.f27, n := 27, pds := [.rd (.sl 53 (.sl 77 (.sl 3 (.int .i64)))), .rd (.int .i64)], caps := [], res := [⟨false, false, (.int .i64)⟩], h := { al := [], el := [], tk := [], nn := [], ca := [(23, 4)], code := (.two .nil (.two .nil (.two .nil (.join ⟨[1, 4], [(1, .v ⟨false, false, (.int .i64)⟩), (4, .v ⟨false, false, (.int .i64)⟩)]⟩ (.two .nil (.loop ⟨[1, 4, 5], [(1, .v ⟨false, false, (.int .i64)⟩), (4, .v ⟨false, false, (.int .i64)⟩), (5, .v ⟨false, false, (.int .i64)⟩)]⟩ .nil)) .nil)))) } }
noncomputable def i_laws_szIntSS : Inst := { f := 82, fn := Tryz.f82, n := 27, pds := [.rd (.sl 77 (.sl 3 (.int .i64))), .rd (.int .i64)], caps := [], res := [⟨false, false, (.int .i64)⟩], h := { al := [], el := [], tk := [], nn := [], ca := [(23, 5)], code := (.two .nil (.two .nil (.two .nil (.join ⟨[1, 4], [(1, .v ⟨false, false, (.int .i64)⟩), (4, .v ⟨false, false, (.int .i64)⟩)]⟩ (.two .nil (.loop ⟨[1, 4, 5], [(1, .v ⟨false, false, (.int .i64)⟩), (4, .v ⟨false, false, (.int .i64)⟩), (5, .v ⟨false, false, (.int .i64)⟩)]⟩ .nil)) .nil)))) } }
noncomputable def i_laws_szIntS : Inst := { f := 135, fn := Tryz.f135, n := 12, pds := [.rd (.sl 3 (.int .i64)), .rd (.int .i64)], caps := [], res := [⟨false, false, (.int .i64)⟩], h := { al := [], el := [], tk := [], nn := [], ca := [], code := .nil } }
noncomputable def i_laws_szOpS : Inst := { f := 44, fn := Tryz.f44, n := 27, pds := [.rd (.sl 132 (.pr (.int .i64) (.pr (.sl 98 (.pr (.int .i64) (.pr .str (.pr (.int .i64) (.pr (.int .i64) (.pr (.int .i64) (.pr .bool (.pr (.sl 3 (.int .i64)) .un)))))))) (.pr (.sl 98 (.pr (.int .i64) (.pr .str (.pr (.int .i64) (.pr (.int .i64) (.pr (.int .i64) (.pr .bool (.pr (.sl 3 (.int .i64)) .un)))))))) (.pr (.sl 217 (.pr (.int .i64) (.pr (.int .i64) .un))) .un))))), .rd (.int .i64)], caps := [], res := [⟨false, false, (.int .i64)⟩], h := { al := [], el := [], tk := [], nn := [], ca := [(23, 7)], code := (.two .nil (.two .nil (.two .nil (.join ⟨[1, 4], [(1, .v ⟨false, false, (.int .i64)⟩), (4, .v ⟨false, false, (.int .i64)⟩)]⟩ (.two .nil (.loop ⟨[1, 4, 5], [(1, .v ⟨false, false, (.int .i64)⟩), (4, .v ⟨false, false, (.int .i64)⟩), (5, .v ⟨false, false, (.int .i64)⟩)]⟩ .nil)) .nil)))) } }
noncomputable def i_laws_szOp : Inst := { f := 112, fn := Tryz.f112, n := 24, pds := [.rd (.pr (.int .i64) (.pr (.sl 98 (.pr (.int .i64) (.pr .str (.pr (.int .i64) (.pr (.int .i64) (.pr (.int .i64) (.pr .bool (.pr (.sl 3 (.int .i64)) .un)))))))) (.pr (.sl 98 (.pr (.int .i64) (.pr .str (.pr (.int .i64) (.pr (.int .i64) (.pr (.int .i64) (.pr .bool (.pr (.sl 3 (.int .i64)) .un)))))))) (.pr (.sl 217 (.pr (.int .i64) (.pr (.int .i64) .un))) .un)))), .rd (.int .i64)], caps := [], res := [⟨false, false, (.int .i64)⟩], h := { al := [], el := [], tk := [], nn := [], ca := [(8, 8), (14, 8), (20, 10)], code := .nil } }
noncomputable def i_laws_szNodeS : Inst := { f := 16, fn := Tryz.f16, n := 27, pds := [.rd (.sl 98 (.pr (.int .i64) (.pr .str (.pr (.int .i64) (.pr (.int .i64) (.pr (.int .i64) (.pr .bool (.pr (.sl 3 (.int .i64)) .un)))))))), .rd (.int .i64)], caps := [], res := [⟨false, false, (.int .i64)⟩], h := { al := [], el := [], tk := [], nn := [], ca := [(23, 9)], code := (.two .nil (.two .nil (.two .nil (.join ⟨[1, 4], [(1, .v ⟨false, false, (.int .i64)⟩), (4, .v ⟨false, false, (.int .i64)⟩)]⟩ (.two .nil (.loop ⟨[1, 4, 5], [(1, .v ⟨false, false, (.int .i64)⟩), (4, .v ⟨false, false, (.int .i64)⟩), (5, .v ⟨false, false, (.int .i64)⟩)]⟩ .nil)) .nil)))) } }
noncomputable def i_laws_szNode : Inst := { f := 73, fn := Tryz.f73, n := 19, pds := [.rd (.pr (.int .i64) (.pr .str (.pr (.int .i64) (.pr (.int .i64) (.pr (.int .i64) (.pr .bool (.pr (.sl 3 (.int .i64)) .un))))))), .rd (.int .i64)], caps := [], res := [⟨false, false, (.int .i64)⟩], h := { al := [], el := [], tk := [], nn := [], ca := [(15, 5)], code := .nil } }
noncomputable def i_laws_szStepS : Inst := { f := 180, fn := Tryz.f180, n := 12, pds := [.rd (.sl 217 (.pr (.int .i64) (.pr (.int .i64) .un))), .rd (.int .i64)], caps := [], res := [⟨false, false, (.int .i64)⟩], h := { al := [], el := [], tk := [], nn := [], ca := [], code := .nil } }
noncomputable def i_laws_szNodeSS : Inst := { f := 45, fn := Tryz.f45, n := 27, pds := [.rd (.sl 23 (.sl 98 (.pr (.int .i64) (.pr .str (.pr (.int .i64) (.pr (.int .i64) (.pr (.int .i64) (.pr .bool (.pr (.sl 3 (.int .i64)) .un))))))))), .rd (.int .i64)], caps := [], res := [⟨false, false, (.int .i64)⟩], h := { al := [], el := [], tk := [], nn := [], ca := [(23, 8)], code := (.two .nil (.two .nil (.two .nil (.join ⟨[1, 4], [(1, .v ⟨false, false, (.int .i64)⟩), (4, .v ⟨false, false, (.int .i64)⟩)]⟩ (.two .nil (.loop ⟨[1, 4, 5], [(1, .v ⟨false, false, (.int .i64)⟩), (4, .v ⟨false, false, (.int .i64)⟩), (5, .v ⟨false, false, (.int .i64)⟩)]⟩ .nil)) .nil)))) } }
noncomputable def i_laws_toTableS : Inst := { f := 18, fn := Tryz.f18, n := 23, pds := [.rd (.sl 96 (.pr .str (.pr (.int .i64) .un)))], caps := [], res := [⟨true, true, (.sl 99 (.pr .str (.pr (.int .i64) .un)))⟩], h := { al := [14], el := [21], tk := [], nn := [], ca := [(20, 13)], code := (.two .nil (.two .nil (.join ⟨[3], [(3, .v ⟨true, true, (.sl 99 (.pr .str (.pr (.int .i64) .un)))⟩)]⟩ (.two .nil (.loop ⟨[3, 4], [(3, .v ⟨true, true, (.sl 99 (.pr .str (.pr (.int .i64) .un)))⟩), (4, .v ⟨false, false, (.int .i64)⟩)]⟩ .nil)) .nil))) } }
noncomputable def i_laws_toTable : Inst := { f := 75, fn := Tryz.f75, n := 11, pds := [.rd (.pr .str (.pr (.int .i64) .un))], caps := [], res := [⟨false, false, (.pr .str (.pr (.int .i64) .un))⟩], h := { al := [], el := [], tk := [], nn := [], ca := [], code := .nil } }
noncomputable def i_laws_toIntSSS : Inst := { f := 29, fn := Tryz.f29, n := 23, pds := [.rd (.sl 53 (.sl 77 (.sl 3 (.int .i64))))], caps := [], res := [⟨true, true, (.sl 53 (.sl 77 (.sl 3 (.int .i64))))⟩], h := { al := [14], el := [21], tk := [], nn := [], ca := [(20, 15)], code := (.two .nil (.two .nil (.join ⟨[3], [(3, .v ⟨true, true, (.sl 53 (.sl 77 (.sl 3 (.int .i64))))⟩)]⟩ (.two .nil (.loop ⟨[3, 4], [(3, .v ⟨true, true, (.sl 53 (.sl 77 (.sl 3 (.int .i64))))⟩), (4, .v ⟨false, false, (.int .i64)⟩)]⟩ .nil)) .nil))) } }
noncomputable def i_laws_toIntSS : Inst := { f := 84, fn := Tryz.f84, n := 23, pds := [.rd (.sl 77 (.sl 3 (.int .i64)))], caps := [], res := [⟨true, true, (.sl 77 (.sl 3 (.int .i64)))⟩], h := { al := [14], el := [21], tk := [], nn := [], ca := [(20, 16)], code := (.two .nil (.two .nil (.join ⟨[3], [(3, .v ⟨true, true, (.sl 77 (.sl 3 (.int .i64)))⟩)]⟩ (.two .nil (.loop ⟨[3, 4], [(3, .v ⟨true, true, (.sl 77 (.sl 3 (.int .i64)))⟩), (4, .v ⟨false, false, (.int .i64)⟩)]⟩ .nil)) .nil))) } }
noncomputable def i_laws_toIntS : Inst := { f := 139, fn := Tryz.f139, n := 22, pds := [.rd (.sl 3 (.int .i64))], caps := [], res := [⟨true, true, (.sl 3 (.int .i64))⟩], h := { al := [14], el := [20], tk := [], nn := [], ca := [], code := (.two .nil (.two .nil (.join ⟨[3], [(3, .v ⟨true, true, (.sl 3 (.int .i64))⟩)]⟩ (.two .nil (.loop ⟨[3, 4], [(3, .v ⟨true, true, (.sl 3 (.int .i64))⟩), (4, .v ⟨false, false, (.int .i64)⟩)]⟩ .nil)) .nil))) } }
noncomputable def i_laws_toOpS : Inst := { f := 47, fn := Tryz.f47, n := 23, pds := [.rd (.sl 132 (.pr (.int .i64) (.pr (.sl 98 (.pr (.int .i64) (.pr .str (.pr (.int .i64) (.pr (.int .i64) (.pr (.int .i64) (.pr .bool (.pr (.sl 3 (.int .i64)) .un)))))))) (.pr (.sl 98 (.pr (.int .i64) (.pr .str (.pr (.int .i64) (.pr (.int .i64) (.pr (.int .i64) (.pr .bool (.pr (.sl 3 (.int .i64)) .un)))))))) (.pr (.sl 217 (.pr (.int .i64) (.pr (.int .i64) .un))) .un)))))], caps := [], res := [⟨true, true, (.sl 134 (.pr (.int .i64) (.pr (.sl 79 (.pr (.int .i64) (.pr .str (.pr (.int .i64) (.pr (.int .i64) (.pr (.int .i64) (.pr .bool (.pr (.sl 3 (.int .i64)) .un)))))))) (.pr (.sl 79 (.pr (.int .i64) (.pr .str (.pr (.int .i64) (.pr (.int .i64) (.pr (.int .i64) (.pr .bool (.pr (.sl 3 (.int .i64)) .un)))))))) (.pr (.sl 45 (.pr (.int .i64) (.pr (.int .i64) .un))) .un)))))⟩], h := { al := [14], el := [21], tk := [], nn := [], ca := [(20, 18)], code := (.two .nil (.two .nil (.join ⟨[3], [(3, .v ⟨true, true, (.sl 134 (.pr (.int .i64) (.pr (.sl 79 (.pr (.int .i64) (.pr .str (.pr (.int .i64) (.pr (.int .i64) (.pr (.int .i64) (.pr .bool (.pr (.sl 3 (.int .i64)) .un)))))))) (.pr (.sl 79 (.pr (.int .i64) (.pr .str (.pr (.int .i64) (.pr (.int .i64) (.pr (.int .i64) (.pr .bool (.pr (.sl 3 (.int .i64)) .un)))))))) (.pr (.sl 45 (.pr (.int .i64) (.pr (.int .i64) .un))) .un)))))⟩)]⟩ (.two .nil (.loop ⟨[3, 4], [(3, .v ⟨true, true, (.sl 134 (.pr (.int .i64) (.pr (.sl 79 (.pr (.int .i64) (.pr .str (.pr (.int .i64) (.pr (.int .i64) (.pr (.int .i64) (.pr .bool (.pr (.sl 3 (.int .i64)) .un)))))))) (.pr (.sl 79 (.pr (.int .i64) (.pr .str (.pr (.int .i64) (.pr (.int .i64) (.pr (.int .i64) (.pr .bool (.pr (.sl 3 (.int .i64)) .un)))))))) (.pr (.sl 45 (.pr (.int .i64) (.pr (.int .i64) .un))) .un)))))⟩), (4, .v ⟨false, false, (.int .i64)⟩)]⟩ .nil)) .nil))) } }
noncomputable def i_laws_toOp : Inst := { f := 113, fn := Tryz.f113, n := 20, pds := [.rd (.pr (.int .i64) (.pr (.sl 98 (.pr (.int .i64) (.pr .str (.pr (.int .i64) (.pr (.int .i64) (.pr (.int .i64) (.pr .bool (.pr (.sl 3 (.int .i64)) .un)))))))) (.pr (.sl 98 (.pr (.int .i64) (.pr .str (.pr (.int .i64) (.pr (.int .i64) (.pr (.int .i64) (.pr .bool (.pr (.sl 3 (.int .i64)) .un)))))))) (.pr (.sl 217 (.pr (.int .i64) (.pr (.int .i64) .un))) .un))))], caps := [], res := [⟨true, true, (.pr (.int .i64) (.pr (.sl 79 (.pr (.int .i64) (.pr .str (.pr (.int .i64) (.pr (.int .i64) (.pr (.int .i64) (.pr .bool (.pr (.sl 3 (.int .i64)) .un)))))))) (.pr (.sl 79 (.pr (.int .i64) (.pr .str (.pr (.int .i64) (.pr (.int .i64) (.pr (.int .i64) (.pr .bool (.pr (.sl 3 (.int .i64)) .un)))))))) (.pr (.sl 45 (.pr (.int .i64) (.pr (.int .i64) .un))) .un))))⟩], h := { al := [], el := [], tk := [19], nn := [], ca := [(9, 19), (13, 19), (17, 21)], code := .nil } }
noncomputable def i_laws_toNodeS : Inst := { f := 19, fn := Tryz.f19, n := 23, pds := [.rd (.sl 98 (.pr (.int .i64) (.pr .str (.pr (.int .i64) (.pr (.int .i64) (.pr (.int .i64) (.pr .bool (.pr (.sl 3 (.int .i64)) .un))))))))], caps := [], res := [⟨true, true, (.sl 79 (.pr (.int .i64) (.pr .str (.pr (.int .i64) (.pr (.int .i64) (.pr (.int .i64) (.pr .bool (.pr (.sl 3 (.int .i64)) .un))))))))⟩], h := { al := [14], el := [21], tk := [], nn := [], ca := [(20, 20)], code := (.two .nil (.two .nil (.join ⟨[3], [(3, .v ⟨true, true, (.sl 79 (.pr (.int .i64) (.pr .str (.pr (.int .i64) (.pr (.int .i64) (.pr (.int .i64) (.pr .bool (.pr (.sl 3 (.int .i64)) .un))))))))⟩)]⟩ (.two .nil (.loop ⟨[3, 4], [(3, .v ⟨true, true, (.sl 79 (.pr (.int .i64) (.pr .str (.pr (.int .i64) (.pr (.int .i64) (.pr (.int .i64) (.pr .bool (.pr (.sl 3 (.int .i64)) .un))))))))⟩), (4, .v ⟨false, false, (.int .i64)⟩)]⟩ .nil)) .nil))) } }
noncomputable def i_laws_toNode : Inst := { f := 76, fn := Tryz.f76, n := 27, pds := [.rd (.pr (.int .i64) (.pr .str (.pr (.int .i64) (.pr (.int .i64) (.pr (.int .i64) (.pr .bool (.pr (.sl 3 (.int .i64)) .un)))))))], caps := [], res := [⟨true, true, (.pr (.int .i64) (.pr .str (.pr (.int .i64) (.pr (.int .i64) (.pr (.int .i64) (.pr .bool (.pr (.sl 3 (.int .i64)) .un)))))))⟩], h := { al := [], el := [], tk := [26], nn := [], ca := [(24, 16)], code := .nil } }
noncomputable def i_laws_toStepS : Inst := { f := 181, fn := Tryz.f181, n := 23, pds := [.rd (.sl 217 (.pr (.int .i64) (.pr (.int .i64) .un)))], caps := [], res := [⟨true, true, (.sl 45 (.pr (.int .i64) (.pr (.int .i64) .un)))⟩], h := { al := [14], el := [21], tk := [], nn := [], ca := [(20, 22)], code := (.two .nil (.two .nil (.join ⟨[3], [(3, .v ⟨true, true, (.sl 45 (.pr (.int .i64) (.pr (.int .i64) .un)))⟩)]⟩ (.two .nil (.loop ⟨[3, 4], [(3, .v ⟨true, true, (.sl 45 (.pr (.int .i64) (.pr (.int .i64) .un)))⟩), (4, .v ⟨false, false, (.int .i64)⟩)]⟩ .nil)) .nil))) } }
noncomputable def i_laws_toStep : Inst := { f := 235, fn := Tryz.f235, n := 11, pds := [.rd (.pr (.int .i64) (.pr (.int .i64) .un))], caps := [], res := [⟨false, false, (.pr (.int .i64) (.pr (.int .i64) .un))⟩], h := { al := [], el := [], tk := [], nn := [], ca := [], code := .nil } }
noncomputable def i_laws_toNodeSS : Inst := { f := 48, fn := Tryz.f48, n := 23, pds := [.rd (.sl 23 (.sl 98 (.pr (.int .i64) (.pr .str (.pr (.int .i64) (.pr (.int .i64) (.pr (.int .i64) (.pr .bool (.pr (.sl 3 (.int .i64)) .un)))))))))], caps := [], res := [⟨true, true, (.sl 29 (.sl 79 (.pr (.int .i64) (.pr .str (.pr (.int .i64) (.pr (.int .i64) (.pr (.int .i64) (.pr .bool (.pr (.sl 3 (.int .i64)) .un)))))))))⟩], h := { al := [14], el := [21], tk := [], nn := [], ca := [(20, 19)], code := (.two .nil (.two .nil (.join ⟨[3], [(3, .v ⟨true, true, (.sl 29 (.sl 79 (.pr (.int .i64) (.pr .str (.pr (.int .i64) (.pr (.int .i64) (.pr (.int .i64) (.pr .bool (.pr (.sl 3 (.int .i64)) .un)))))))))⟩)]⟩ (.two .nil (.loop ⟨[3, 4], [(3, .v ⟨true, true, (.sl 29 (.sl 79 (.pr (.int .i64) (.pr .str (.pr (.int .i64) (.pr (.int .i64) (.pr (.int .i64) (.pr .bool (.pr (.sl 3 (.int .i64)) .un)))))))))⟩), (4, .v ⟨false, false, (.int .i64)⟩)]⟩ .nil)) .nil))) } }
noncomputable def i_spec_PlansMean : Inst := { f := 46, fn := Tryz.f46, n := 81, pds := [.rd (.sl 99 (.pr .str (.pr (.int .i64) .un))), .rd (.sl 53 (.sl 77 (.sl 3 (.int .i64)))), .rd (.sl 134 (.pr (.int .i64) (.pr (.sl 79 (.pr (.int .i64) (.pr .str (.pr (.int .i64) (.pr (.int .i64) (.pr (.int .i64) (.pr .bool (.pr (.sl 3 (.int .i64)) .un)))))))) (.pr (.sl 79 (.pr (.int .i64) (.pr .str (.pr (.int .i64) (.pr (.int .i64) (.pr (.int .i64) (.pr .bool (.pr (.sl 3 (.int .i64)) .un)))))))) (.pr (.sl 45 (.pr (.int .i64) (.pr (.int .i64) .un))) .un))))), .rd (.sl 29 (.sl 79 (.pr (.int .i64) (.pr .str (.pr (.int .i64) (.pr (.int .i64) (.pr (.int .i64) (.pr .bool (.pr (.sl 3 (.int .i64)) .un)))))))))], caps := [], res := [⟨false, false, .bool⟩], h := { al := [], el := [], tk := [], nn := [], ca := [(47, 25), (57, 25), (78, 54)], code := (.two .nil (.two .nil (.join ⟨[8], [(8, .v ⟨false, false, .bool⟩)]⟩ (.two .nil (.loop ⟨[8, 9], [(8, .v ⟨false, false, .bool⟩), (9, .v ⟨false, false, (.int .i64)⟩)]⟩ (.two .nil (.join ⟨[8], [(8, .v ⟨false, false, .bool⟩)]⟩ (.two (.join ⟨[], [(38, .v ⟨false, false, .bool⟩)]⟩ .nil .nil) (.two .nil (.two .nil (.join ⟨[], [(80, .v ⟨false, false, .bool⟩)]⟩ .nil .nil)))) .nil)))) .nil))) } }
noncomputable def i_spec_EvalPlan : Inst := { f := 74, fn := Tryz.f74, n := 43, pds := [.rd (.sl 99 (.pr .str (.pr (.int .i64) .un))), .rd (.sl 53 (.sl 77 (.sl 3 (.int .i64)))), .rd (.sl 79 (.pr (.int .i64) (.pr .str (.pr (.int .i64) (.pr (.int .i64) (.pr (.int .i64) (.pr .bool (.pr (.sl 3 (.int .i64)) .un))))))))], caps := [], res := [⟨true, true, (.sl 77 (.sl 3 (.int .i64)))⟩, ⟨false, false, (.int .i64)⟩], h := { al := [], el := [], tk := [], nn := [], ca := [(13, 26), (18, 33), (36, 43), (42, 53)], code := (.two .nil (.two (.join ⟨[], [(20, .v ⟨false, false, .bool⟩)]⟩ .nil .nil) (.join ⟨[6, 7], [(6, .v ⟨true, true, (.sl 77 (.sl 3 (.int .i64)))⟩), (7, .v ⟨false, false, (.int .i64)⟩)]⟩ (.two .nil (.loop ⟨[6, 7, 8], [(6, .v ⟨true, true, (.sl 77 (.sl 3 (.int .i64)))⟩), (7, .v ⟨false, false, (.int .i64)⟩), (8, .v ⟨false, false, (.int .i64)⟩)]⟩ .nil)) .nil))) } }
noncomputable def i_spec_StoreOk : Inst := { f := 136, fn := Tryz.f136, n := 77, pds := [.rd (.sl 99 (.pr .str (.pr (.int .i64) .un))), .rd (.sl 53 (.sl 77 (.sl 3 (.int .i64))))], caps := [], res := [⟨false, false, .bool⟩], h := { al := [], el := [], tk := [], nn := [], ca := [(9, 27), (75, 31)], code := (.two .nil (.two (.join ⟨[], [(17, .v ⟨false, false, .bool⟩)]⟩ .nil .nil) (.join ⟨[4], [(4, .v ⟨false, false, .bool⟩)]⟩ (.two .nil (.loop ⟨[4, 5], [(4, .v ⟨false, false, .bool⟩), (5, .v ⟨false, false, (.int .i64)⟩)]⟩ (.two .nil (.join ⟨[4], [(4, .v ⟨false, false, .bool⟩)]⟩ (.two .nil (.two .nil (.loop ⟨[4, 6], [(4, .v ⟨false, false, .bool⟩), (6, .v ⟨false, false, (.int .i64)⟩)]⟩ (.two .nil (.join ⟨[4], [(4, .v ⟨false, false, .bool⟩)]⟩ (.two .nil (.two .nil (.loop ⟨[4, 7], [(4, .v ⟨false, false, .bool⟩), (7, .v ⟨false, false, (.int .i64)⟩)]⟩ .nil))) .nil))))) .nil)))) .nil))) } }
noncomputable def i_spec_SchemaOk : Inst := { f := 104, fn := Tryz.f104, n := 48, pds := [.rd (.sl 99 (.pr .str (.pr (.int .i64) .un)))], caps := [], res := [⟨false, false, .bool⟩], h := { al := [], el := [], tk := [], nn := [], ca := [(18, 28), (26, 29), (44, 30)], code := (.two .nil (.two .nil (.join ⟨[2], [(2, .v ⟨false, false, .bool⟩)]⟩ (.two .nil (.loop ⟨[2, 3], [(2, .v ⟨false, false, .bool⟩), (3, .v ⟨false, false, (.int .i64)⟩)]⟩ (.two .nil (.two (.join ⟨[], [(47, .v ⟨false, false, .bool⟩)]⟩ .nil .nil) .nil)))) .nil))) } }
noncomputable def i_spec_WordOk : Inst := { f := 166, fn := Tryz.f166, n := 41, pds := [.rd .str], caps := [], res := [⟨false, false, .bool⟩], h := { al := [], el := [], tk := [], nn := [], ca := [(6, 29)], code := (.two .nil (.two (.join ⟨[], [(12, .v ⟨false, false, .bool⟩)]⟩ .nil .nil) (.join ⟨[2], [(2, .v ⟨false, false, .bool⟩)]⟩ (.two .nil (.loop ⟨[2, 3], [(2, .v ⟨false, false, .bool⟩), (3, .v ⟨false, false, (.int .i64)⟩)]⟩ (.two .nil (.two (.join ⟨[], [(40, .v ⟨false, false, .bool⟩)]⟩ .nil .nil) .nil)))) .nil))) } }
noncomputable def i_spec_l01In : Inst := { f := 80, fn := Tryz.f80, n := 15, pds := [.rd (.int .i64), .rd (.int .i64), .rd (.int .i64)], caps := [], res := [⟨false, false, .bool⟩], h := { al := [], el := [], tk := [], nn := [], ca := [], code := (.two .nil (.join ⟨[6], [(6, .v ⟨false, false, .bool⟩)]⟩ .nil .nil)) } }
noncomputable def i_spec_l01Less : Inst := { f := 167, fn := Tryz.f167, n := 37, pds := [.rd .str, .rd .str], caps := [], res := [⟨false, false, .bool⟩], h := { al := [], el := [], tk := [], nn := [], ca := [], code := (.two .nil (.join ⟨[4], [(4, .v ⟨false, false, .bool⟩)]⟩ (.two .nil (.loop ⟨[4, 5], [(4, .v ⟨false, false, .bool⟩), (5, .v ⟨false, false, (.int .i64)⟩)]⟩ (.two (.join ⟨[], [(15, .v ⟨false, false, .bool⟩)]⟩ .nil .nil) .nil))) .nil)) } }
noncomputable def i_spec_l04Value : Inst := { f := 205, fn := Tryz.f205, n := 9, pds := [.rd (.int .i64)], caps := [], res := [⟨false, false, .bool⟩], h := { al := [], el := [], tk := [], nn := [], ca := [(4, 32)], code := (.two .nil (.join ⟨[2], [(2, .v ⟨false, false, .bool⟩)]⟩ .nil .nil)) } }
noncomputable def i_spec_l01Number : Inst := { f := 219, fn := Tryz.f219, n := 5, pds := [.rd (.int .i64)], caps := [], res := [⟨false, false, .bool⟩], h := { al := [], el := [], tk := [], nn := [], ca := [(4, 29)], code := .nil } }
noncomputable def i_spec_TypedOk : Inst := { f := 57, fn := Tryz.f57, n := 9, pds := [.rd (.sl 99 (.pr .str (.pr (.int .i64) .un))), .rd (.sl 79 (.pr (.int .i64) (.pr .str (.pr (.int .i64) (.pr (.int .i64) (.pr (.int .i64) (.pr .bool (.pr (.sl 3 (.int .i64)) .un))))))))], caps := [], res := [⟨false, false, .bool⟩], h := { al := [], el := [], tk := [], nn := [], ca := [(7, 34)], code := .nil } }
noncomputable def i_spec_WidthOf : Inst := { f := 118, fn := Tryz.f118, n := 16, pds := [.rd (.sl 99 (.pr .str (.pr (.int .i64) .un))), .rd (.sl 79 (.pr (.int .i64) (.pr .str (.pr (.int .i64) (.pr (.int .i64) (.pr (.int .i64) (.pr .bool (.pr (.sl 3 (.int .i64)) .un))))))))], caps := [], res := [⟨false, false, (.int .i64)⟩], h := { al := [], el := [], tk := [], nn := [], ca := [(6, 27), (10, 35), (15, 40)], code := (.two .nil (.two (.join ⟨[], [(12, .v ⟨false, false, .bool⟩)]⟩ .nil .nil) .nil)) } }
noncomputable def i_spec_PlanOk : Inst := { f := 95, fn := Tryz.f95, n := 31, pds := [.rd (.sl 79 (.pr (.int .i64) (.pr .str (.pr (.int .i64) (.pr (.int .i64) (.pr (.int .i64) (.pr .bool (.pr (.sl 3 (.int .i64)) .un))))))))], caps := [], res := [⟨false, false, .bool⟩], h := { al := [], el := [], tk := [], nn := [], ca := [(8, 29), (20, 36), (24, 38)], code := (.two .nil (.two .nil (.join ⟨[2], [(2, .v ⟨false, false, .bool⟩)]⟩ (.two .nil (.loop ⟨[2, 3], [(2, .v ⟨false, false, .bool⟩), (3, .v ⟨false, false, (.int .i64)⟩)]⟩ .nil)) .nil))) } }
noncomputable def i_spec_NodeOk : Inst := { f := 154, fn := Tryz.f154, n := 186, pds := [.rd (.pr (.int .i64) (.pr .str (.pr (.int .i64) (.pr (.int .i64) (.pr (.int .i64) (.pr .bool (.pr (.sl 3 (.int .i64)) .un)))))))], caps := [], res := [⟨false, false, .bool⟩], h := { al := [], el := [], tk := [], nn := [], ca := [(39, 29), (49, 28), (69, 37), (73, 29), (78, 32), (109, 37), (114, 29), (134, 37), (138, 37), (149, 37), (168, 29)], code := (.two .nil (.two (.join ⟨[], [(42, .v ⟨false, false, .bool⟩)]⟩ .nil .nil) (.join ⟨[2], [(2, .v ⟨false, false, .bool⟩)]⟩ (.two .nil (.two .nil (.two (.join ⟨[2], [(2, .v ⟨false, false, .bool⟩)]⟩ .nil .nil) (.two .nil (.two (.join ⟨[2], [(2, .v ⟨false, false, .bool⟩)]⟩ .nil .nil) (.two .nil (.two (.join ⟨[2], [(2, .v ⟨false, false, .bool⟩)]⟩ (.two .nil (.loop ⟨[2, 3], [(2, .v ⟨false, false, .bool⟩), (3, .v ⟨false, false, (.int .i64)⟩)]⟩ .nil)) (.join ⟨[2], [(2, .v ⟨false, false, .bool⟩)]⟩ .nil .nil)) (.two .nil (.two (.join ⟨[2], [(2, .v ⟨false, false, .bool⟩)]⟩ .nil .nil) (.two .nil (.two (.join ⟨[2], [(2, .v ⟨false, false, .bool⟩)]⟩ .nil .nil) (.two .nil (.two (.join ⟨[2], [(2, .v ⟨false, false, .bool⟩)]⟩ .nil .nil) (.join ⟨[], [(170, .v ⟨false, false, .bool⟩)]⟩ .nil (.two (.join ⟨[2], [(2, .v ⟨false, false, .bool⟩)]⟩ .nil .nil) .nil))))))))))))))) .nil))) } }
noncomputable def i_spec_l02Col : Inst := { f := 218, fn := Tryz.f218, n := 5, pds := [.rd (.int .i64)], caps := [], res := [⟨false, false, .bool⟩], h := { al := [], el := [], tk := [], nn := [], ca := [(4, 29)], code := .nil } }
noncomputable def i_spec_l02End : Inst := { f := 93, fn := Tryz.f93, n := 51, pds := [.rd (.sl 79 (.pr (.int .i64) (.pr .str (.pr (.int .i64) (.pr (.int .i64) (.pr (.int .i64) (.pr .bool (.pr (.sl 3 (.int .i64)) .un)))))))), .rd (.int .i64), .rd (.int .i64)], caps := [], res := [⟨false, false, (.int .i64)⟩, ⟨false, false, (.int .i64)⟩], h := { al := [], el := [], tk := [], nn := [], ca := [(29, 39), (38, 38)], code := (.two .nil (.two (.join ⟨[], [(20, .v ⟨false, false, .bool⟩)]⟩ .nil .nil) (.two .nil (.two .nil (.join ⟨[6, 7, 8, 9], [(6, .v ⟨false, false, (.int .i64)⟩), (7, .v ⟨false, false, (.int .i64)⟩), (8, .v ⟨false, false, (.int .i64)⟩), (9, .v ⟨false, false, (.int .i64)⟩)]⟩ (.two .nil (.loop ⟨[6, 7, 8, 9, 10], [(6, .v ⟨false, false, (.int .i64)⟩), (7, .v ⟨false, false, (.int .i64)⟩), (8, .v ⟨false, false, (.int .i64)⟩), (9, .v ⟨false, false, (.int .i64)⟩), (10, .v ⟨false, false, (.int .i64)⟩)]⟩ (.two .nil (.join ⟨[6, 7, 8, 9], [(6, .v ⟨false, false, (.int .i64)⟩), (7, .v ⟨false, false, (.int .i64)⟩), (8, .v ⟨false, false, (.int .i64)⟩), (9, .v ⟨false, false, (.int .i64)⟩)]⟩ .nil .nil)))) .nil))))) } }
noncomputable def i_spec_ArityOf : Inst := { f := 153, fn := Tryz.f153, n := 15, pds := [.rd (.int .i64)], caps := [], res := [⟨false, false, (.int .i64)⟩], h := { al := [], el := [], tk := [], nn := [], ca := [], code := (.two .nil (.two (.two .nil (.two .nil (.two .nil (.join ⟨[], [(6, .v ⟨false, false, .bool⟩)]⟩ .nil (.two .nil (.join ⟨[], [(9, .v ⟨false, false, .bool⟩)]⟩ .nil .nil)))))) .nil)) } }
noncomputable def i_spec_l03Width : Inst := { f := 152, fn := Tryz.f152, n := 131, pds := [.rd (.sl 99 (.pr .str (.pr (.int .i64) .un))), .rd (.sl 79 (.pr (.int .i64) (.pr .str (.pr (.int .i64) (.pr (.int .i64) (.pr (.int .i64) (.pr .bool (.pr (.sl 3 (.int .i64)) .un)))))))), .rd (.int .i64)], caps := [], res := [⟨false, false, (.int .i64)⟩], h := { al := [23, 30, 61, 79, 90, 97, 103, 106, 112, 115, 121, 124, 128], el := [], tk := [], nn := [], ca := [(21, 41), (34, 40), (48, 42)], code := (.two .nil (.two .nil (.two .nil (.two .nil (.join ⟨[6, 8], [(6, .v ⟨false, false, (.int .i64)⟩), (8, .v ⟨true, true, (.sl 3 (.int .i64))⟩)]⟩ (.two .nil (.loop ⟨[6, 8, 10], [(6, .v ⟨false, false, (.int .i64)⟩), (8, .v ⟨true, true, (.sl 3 (.int .i64))⟩), (10, .v ⟨false, false, (.int .i64)⟩)]⟩ .nil)) (.join ⟨[6], [(6, .v ⟨false, false, (.int .i64)⟩)]⟩ (.two .nil (.two .nil (.two .nil (.join ⟨[], [(56, .v ⟨false, false, .bool⟩)]⟩ .nil (.two .nil (.two .nil (.two (.join ⟨[6], [(6, .v ⟨false, false, (.int .i64)⟩)]⟩ (.two .nil (.loop ⟨[6, 13], [(6, .v ⟨false, false, (.int .i64)⟩), (13, .v ⟨false, false, (.int .i64)⟩)]⟩ .nil)) .nil) (.two .nil (.two (.two (.join ⟨[], [(111, .v ⟨false, false, .bool⟩)]⟩ .nil .nil) .nil) .nil))))))))) .nil)))))) } }
noncomputable def i_spec_l02Kids : Inst := { f := 151, fn := Tryz.f151, n := 32, pds := [.rd (.sl 79 (.pr (.int .i64) (.pr .str (.pr (.int .i64) (.pr (.int .i64) (.pr (.int .i64) (.pr .bool (.pr (.sl 3 (.int .i64)) .un)))))))), .rd (.int .i64)], caps := [], res := [⟨true, true, (.sl 3 (.int .i64))⟩], h := { al := [], el := [], tk := [], nn := [], ca := [(17, 39), (28, 38)], code := (.two .nil (.two .nil (.two .nil (.join ⟨[5, 6], [(5, .v ⟨true, true, (.sl 3 (.int .i64))⟩)]⟩ (.two .nil (.loop ⟨[5, 6, 7], [(5, .v ⟨true, true, (.sl 3 (.int .i64))⟩), (6, .v ⟨false, false, (.int .i64)⟩), (7, .v ⟨false, false, (.int .i64)⟩)]⟩ .nil)) .nil)))) } }
noncomputable def i_spec_l03Find : Inst := { f := 206, fn := Tryz.f206, n := 20, pds := [.rd (.sl 99 (.pr .str (.pr (.int .i64) .un))), .rd .str], caps := [], res := [⟨false, false, (.int .i64)⟩], h := { al := [], el := [], tk := [], nn := [], ca := [], code := (.two .nil (.join ⟨[4], [(4, .v ⟨false, false, (.int .i64)⟩)]⟩ (.two .nil (.loop ⟨[4, 5], [(4, .v ⟨false, false, (.int .i64)⟩), (5, .v ⟨false, false, (.int .i64)⟩)]⟩ .nil)) .nil)) } }
noncomputable def i_spec_l04Eval : Inst := { f := 137, fn := Tryz.f137, n := 142, pds := [.rd (.sl 99 (.pr .str (.pr (.int .i64) .un))), .rd (.sl 53 (.sl 77 (.sl 3 (.int .i64)))), .rd (.sl 79 (.pr (.int .i64) (.pr .str (.pr (.int .i64) (.pr (.int .i64) (.pr (.int .i64) (.pr .bool (.pr (.sl 3 (.int .i64)) .un)))))))), .rd (.int .i64)], caps := [], res := [⟨false, false, (.sl 77 (.sl 3 (.int .i64)))⟩, ⟨false, false, .bool⟩], h := { al := [28, 37, 65, 72, 79, 82, 93, 102, 114, 120, 134], el := [66, 73, 80, 83, 95, 104, 115, 121, 135], tk := [], nn := [], hi := [23, 50], hs := [138], ca := [(26, 41), (41, 43), (59, 42), (68, 44), (75, 46), (85, 47), (117, 49), (137, 50)], code := (.two .nil (.two .nil (.two .nil (.two .nil (.join ⟨[8, 9, 11], [(8, .v ⟨true, true, (.sl 77 (.sl 3 (.int .i64)))⟩), (9, .v ⟨false, false, .bool⟩), (11, .v ⟨true, false, (.sl 53 (.sl 77 (.sl 3 (.int .i64))))⟩)]⟩ (.two .nil (.loop ⟨[8, 9, 11, 13], [(8, .v ⟨true, true, (.sl 77 (.sl 3 (.int .i64)))⟩), (9, .v ⟨false, false, .bool⟩), (11, .v ⟨true, false, (.sl 53 (.sl 77 (.sl 3 (.int .i64))))⟩), (13, .v ⟨false, false, (.int .i64)⟩)]⟩ .nil)) (.two .nil (.two (.two .nil (.two .nil (.two .nil (.two .nil (.two .nil (.two .nil (.two .nil (.two .nil (.two .nil (.two .nil (.two (.two .nil (.loop ⟨[16, 17], [(16, .v ⟨true, false, (.sl 77 (.sl 3 (.int .i64)))⟩), (17, .v ⟨false, false, (.int .i64)⟩)]⟩ (.two .nil (.join ⟨[16], [(16, .v ⟨true, false, (.sl 77 (.sl 3 (.int .i64)))⟩)]⟩ (.two .nil (.loop ⟨[16, 18], [(16, .v ⟨true, false, (.sl 77 (.sl 3 (.int .i64)))⟩), (18, .v ⟨false, false, (.int .i64)⟩)]⟩ .nil)) .nil)))) .nil))))))))))) .nil))))))) } }
noncomputable def i_spec_l04Filter : Inst := { f := 207, fn := Tryz.f207, n := 32, pds := [.rd (.pr (.int .i64) (.pr .str (.pr (.int .i64) (.pr (.int .i64) (.pr (.int .i64) (.pr .bool (.pr (.sl 3 (.int .i64)) .un))))))), .rd (.sl 77 (.sl 3 (.int .i64)))], caps := [], res := [⟨true, false, (.sl 77 (.sl 3 (.int .i64)))⟩], h := { al := [], el := [], tk := [], nn := [], hi := [7], ca := [(23, 45)], code := (.two .nil (.two .nil (.join ⟨[5], [(5, .v ⟨true, false, (.sl 77 (.sl 3 (.int .i64)))⟩)]⟩ (.two .nil (.loop ⟨[5, 6], [(5, .v ⟨true, false, (.sl 77 (.sl 3 (.int .i64)))⟩), (6, .v ⟨false, false, (.int .i64)⟩)]⟩ (.two .nil (.join ⟨[5], [(5, .v ⟨true, false, (.sl 77 (.sl 3 (.int .i64)))⟩)]⟩ .nil .nil)))) .nil))) } }
noncomputable def i_spec_l04Holds : Inst := { f := 245, fn := Tryz.f245, n := 30, pds := [.rd (.pr (.int .i64) (.pr .str (.pr (.int .i64) (.pr (.int .i64) (.pr (.int .i64) (.pr .bool (.pr (.sl 3 (.int .i64)) .un))))))), .rd (.int .i64)], caps := [], res := [⟨false, false, .bool⟩], h := { al := [], el := [], tk := [], nn := [], ca := [], code := .nil } }
noncomputable def i_spec_l04Keep : Inst := { f := 208, fn := Tryz.f208, n := 43, pds := [.rd (.pr (.int .i64) (.pr .str (.pr (.int .i64) (.pr (.int .i64) (.pr (.int .i64) (.pr .bool (.pr (.sl 3 (.int .i64)) .un))))))), .rd (.sl 77 (.sl 3 (.int .i64)))], caps := [], res := [⟨true, true, (.sl 77 (.sl 3 (.int .i64)))⟩], h := { al := [], el := [], tk := [], nn := [], ca := [], code := (.two .nil (.two .nil (.join ⟨[5], [(5, .v ⟨true, true, (.sl 77 (.sl 3 (.int .i64)))⟩)]⟩ (.two .nil (.loop ⟨[5, 6], [(5, .v ⟨true, true, (.sl 77 (.sl 3 (.int .i64)))⟩), (6, .v ⟨false, false, (.int .i64)⟩)]⟩ (.two .nil (.join ⟨[5], [(5, .v ⟨true, true, (.sl 77 (.sl 3 (.int .i64)))⟩)]⟩ (.two .nil (.join ⟨[7], [(7, .v ⟨true, true, (.sl 3 (.int .i64))⟩)]⟩ (.two .nil (.loop ⟨[7, 8], [(7, .v ⟨true, true, (.sl 3 (.int .i64))⟩), (8, .v ⟨false, false, (.int .i64)⟩)]⟩ .nil)) .nil)) .nil)))) .nil))) } }
noncomputable def i_spec_l04Join : Inst := { f := 209, fn := Tryz.f209, n := 77, pds := [.rd (.pr (.int .i64) (.pr .str (.pr (.int .i64) (.pr (.int .i64) (.pr (.int .i64) (.pr .bool (.pr (.sl 3 (.int .i64)) .un))))))), .rd (.sl 77 (.sl 3 (.int .i64))), .rd (.sl 77 (.sl 3 (.int .i64)))], caps := [], res := [⟨true, true, (.sl 77 (.sl 3 (.int .i64)))⟩], h := { al := [], el := [], tk := [], nn := [], ca := [(52, 48)], code := (.two .nil (.two .nil (.join ⟨[7], [(7, .v ⟨true, true, (.sl 77 (.sl 3 (.int .i64)))⟩)]⟩ (.two .nil (.loop ⟨[7, 8], [(7, .v ⟨true, true, (.sl 77 (.sl 3 (.int .i64)))⟩), (8, .v ⟨false, false, (.int .i64)⟩)]⟩ (.two .nil (.join ⟨[7], [(7, .v ⟨true, true, (.sl 77 (.sl 3 (.int .i64)))⟩)]⟩ (.two .nil (.loop ⟨[7, 9], [(7, .v ⟨true, true, (.sl 77 (.sl 3 (.int .i64)))⟩), (9, .v ⟨false, false, (.int .i64)⟩)]⟩ (.two .nil (.join ⟨[7], [(7, .v ⟨true, true, (.sl 77 (.sl 3 (.int .i64)))⟩)]⟩ (.two .nil (.two (.join ⟨[], [(47, .v ⟨false, false, .bool⟩)]⟩ .nil .nil) (.two .nil (.join ⟨[11], [(11, .v ⟨true, true, (.sl 3 (.int .i64))⟩)]⟩ (.two .nil (.loop ⟨[11, 12], [(11, .v ⟨true, true, (.sl 3 (.int .i64))⟩), (12, .v ⟨false, false, (.int .i64)⟩)]⟩ .nil)) .nil)))) .nil)))) .nil)))) .nil))) } }
noncomputable def i_spec_l01Copy : Inst := { f := 150, fn := Tryz.f150, n := 20, pds := [.rd (.sl 3 (.int .i64))], caps := [], res := [⟨true, true, (.sl 3 (.int .i64))⟩], h := { al := [], el := [], tk := [], nn := [], ca := [], code := (.two .nil (.two .nil (.join ⟨[3], [(3, .v ⟨true, true, (.sl 3 (.int .i64))⟩)]⟩ (.two .nil (.loop ⟨[3, 4], [(3, .v ⟨true, true, (.sl 3 (.int .i64))⟩), (4, .v ⟨false, false, (.int .i64)⟩)]⟩ .nil)) .nil))) } }
noncomputable def i_spec_l04Sort : Inst := { f := 210, fn := Tryz.f210, n := 70, pds := [.rd (.pr (.int .i64) (.pr .str (.pr (.int .i64) (.pr (.int .i64) (.pr (.int .i64) (.pr .bool (.pr (.sl 3 (.int .i64)) .un))))))), .rd (.sl 77 (.sl 3 (.int .i64)))], caps := [], res := [⟨true, false, (.sl 77 (.sl 3 (.int .i64)))⟩], h := { al := [19, 35, 53], el := [37, 55], tk := [], nn := [], hi := [10, 17], ca := [], code := (.two .nil (.two .nil (.join ⟨[5], [(5, .v ⟨true, false, (.sl 77 (.sl 3 (.int .i64)))⟩)]⟩ (.two .nil (.loop ⟨[5, 6], [(5, .v ⟨true, false, (.sl 77 (.sl 3 (.int .i64)))⟩), (6, .v ⟨false, false, (.int .i64)⟩)]⟩ (.two .nil (.join ⟨[5], [(5, .v ⟨true, false, (.sl 77 (.sl 3 (.int .i64)))⟩)]⟩ (.two .nil (.two .nil (.join ⟨[7, 8], [(7, .v ⟨true, false, (.sl 77 (.sl 3 (.int .i64)))⟩), (8, .v ⟨false, false, .bool⟩)]⟩ (.two .nil (.loop ⟨[7, 8, 9], [(7, .v ⟨true, false, (.sl 77 (.sl 3 (.int .i64)))⟩), (8, .v ⟨false, false, .bool⟩), (9, .v ⟨false, false, (.int .i64)⟩)]⟩ (.two .nil (.two (.join ⟨[7, 8], [(7, .v ⟨true, false, (.sl 77 (.sl 3 (.int .i64)))⟩), (8, .v ⟨false, false, .bool⟩)]⟩ (.join ⟨[], [(44, .v ⟨false, false, .bool⟩)]⟩ .nil .nil) .nil) .nil)))) (.join ⟨[7], [(7, .v ⟨true, false, (.sl 77 (.sl 3 (.int .i64)))⟩)]⟩ .nil .nil)))) .nil)))) .nil))) } }
noncomputable def i_spec_l04Once : Inst := { f := 211, fn := Tryz.f211, n := 27, pds := [.rd (.sl 77 (.sl 3 (.int .i64)))], caps := [], res := [⟨true, false, (.sl 77 (.sl 3 (.int .i64)))⟩], h := { al := [12], el := [], tk := [], nn := [], hi := [5], ca := [(17, 51)], code := (.two .nil (.two .nil (.join ⟨[3], [(3, .v ⟨true, false, (.sl 77 (.sl 3 (.int .i64)))⟩)]⟩ (.two .nil (.loop ⟨[3, 4], [(3, .v ⟨true, false, (.sl 77 (.sl 3 (.int .i64)))⟩), (4, .v ⟨false, false, (.int .i64)⟩)]⟩ (.two .nil (.join ⟨[3], [(3, .v ⟨true, false, (.sl 77 (.sl 3 (.int .i64)))⟩)]⟩ .nil .nil)))) .nil))) } }
noncomputable def i_spec_CountSame : Inst := { f := 246, fn := Tryz.f246, n := 22, pds := [.rd (.sl 77 (.sl 3 (.int .i64))), .rd (.sl 3 (.int .i64))], caps := [], res := [⟨false, false, (.int .i64)⟩], h := { al := [], el := [], tk := [], nn := [], ca := [(18, 52)], code := (.two .nil (.two .nil (.join ⟨[5], [(5, .v ⟨false, false, (.int .i64)⟩)]⟩ (.two .nil (.loop ⟨[5, 6], [(5, .v ⟨false, false, (.int .i64)⟩), (6, .v ⟨false, false, (.int .i64)⟩)]⟩ (.two .nil (.join ⟨[5], [(5, .v ⟨false, false, (.int .i64)⟩)]⟩ .nil .nil)))) .nil))) } }
noncomputable def i_spec_l02SameInts : Inst := { f := 142, fn := Tryz.f142, n := 26, pds := [.rd (.sl 3 (.int .i64)), .rd (.sl 3 (.int .i64))], caps := [], res := [⟨false, false, .bool⟩], h := { al := [], el := [], tk := [], nn := [], ca := [], code := (.two .nil (.two .nil (.join ⟨[4], [(4, .v ⟨false, false, .bool⟩)]⟩ (.two .nil (.loop ⟨[4, 5], [(4, .v ⟨false, false, .bool⟩), (5, .v ⟨false, false, (.int .i64)⟩)]⟩ .nil)) .nil))) } }
noncomputable def i_spec_l04Copy : Inst := { f := 138, fn := Tryz.f138, n := 21, pds := [.rd (.sl 77 (.sl 3 (.int .i64)))], caps := [], res := [⟨true, true, (.sl 77 (.sl 3 (.int .i64)))⟩], h := { al := [], el := [], tk := [], nn := [], ca := [(17, 48)], code := (.two .nil (.two .nil (.join ⟨[3], [(3, .v ⟨true, true, (.sl 77 (.sl 3 (.int .i64)))⟩)]⟩ (.two .nil (.loop ⟨[3, 4], [(3, .v ⟨true, true, (.sl 77 (.sl 3 (.int .i64)))⟩), (4, .v ⟨false, false, (.int .i64)⟩)]⟩ .nil)) .nil))) } }
noncomputable def i_spec_MeansSame : Inst := { f := 28, fn := Tryz.f28, n := 38, pds := [.rd (.sl 99 (.pr .str (.pr (.int .i64) .un))), .rd (.sl 53 (.sl 77 (.sl 3 (.int .i64)))), .rd (.sl 79 (.pr (.int .i64) (.pr .str (.pr (.int .i64) (.pr (.int .i64) (.pr (.int .i64) (.pr .bool (.pr (.sl 3 (.int .i64)) .un)))))))), .rd (.sl 79 (.pr (.int .i64) (.pr .str (.pr (.int .i64) (.pr (.int .i64) (.pr (.int .i64) (.pr .bool (.pr (.sl 3 (.int .i64)) .un))))))))], caps := [], res := [⟨false, false, .bool⟩], h := { al := [34, 35], el := [], tk := [], nn := [], ca := [(17, 25), (24, 25), (36, 55)], code := (.two .nil (.two .nil (.two .nil (.join ⟨[8], [(8, .v ⟨false, false, .bool⟩)]⟩ .nil .nil)))) } }
noncomputable def i_spec_SameRows : Inst := { f := 83, fn := Tryz.f83, n := 27, pds := [.rd (.sl 77 (.sl 3 (.int .i64))), .rd (.sl 77 (.sl 3 (.int .i64)))], caps := [], res := [⟨false, false, .bool⟩], h := { al := [], el := [], tk := [], nn := [], ca := [(25, 52)], code := (.two .nil (.two .nil (.join ⟨[4], [(4, .v ⟨false, false, .bool⟩)]⟩ (.two .nil (.loop ⟨[4, 5], [(4, .v ⟨false, false, .bool⟩), (5, .v ⟨false, false, (.int .i64)⟩)]⟩ .nil)) .nil))) } }
noncomputable def i_impl_PlansMean : Inst := { f := 49, fn := Tryz.f49, n := 69, pds := [.rd (.sl 99 (.pr .str (.pr (.int .i64) .un))), .rd (.sl 53 (.sl 77 (.sl 3 (.int .i64)))), .rd (.sl 134 (.pr (.int .i64) (.pr (.sl 79 (.pr (.int .i64) (.pr .str (.pr (.int .i64) (.pr (.int .i64) (.pr (.int .i64) (.pr .bool (.pr (.sl 3 (.int .i64)) .un)))))))) (.pr (.sl 79 (.pr (.int .i64) (.pr .str (.pr (.int .i64) (.pr (.int .i64) (.pr (.int .i64) (.pr .bool (.pr (.sl 3 (.int .i64)) .un)))))))) (.pr (.sl 45 (.pr (.int .i64) (.pr (.int .i64) .un))) .un))))), .rd (.sl 29 (.sl 79 (.pr (.int .i64) (.pr .str (.pr (.int .i64) (.pr (.int .i64) (.pr (.int .i64) (.pr .bool (.pr (.sl 3 (.int .i64)) .un)))))))))], caps := [], res := [⟨false, false, .bool⟩], h := { al := [63, 64], el := [], tk := [], nn := [], ca := [(43, 57), (53, 57), (65, 112)], code := (.two .nil (.two .nil (.join ⟨[8], [(8, .v ⟨false, false, .bool⟩)]⟩ (.two .nil (.loop ⟨[8, 22], [(8, .v ⟨false, false, .bool⟩), (22, .v ⟨false, false, (.int .i64)⟩)]⟩ (.two .nil (.two .nil (.join ⟨[8], [(8, .v ⟨false, false, .bool⟩)]⟩ (.two .nil (.two (.join ⟨[], [(37, .v ⟨false, false, .bool⟩)]⟩ .nil .nil) (.two .nil (.two .nil (.join ⟨[], [(67, .v ⟨false, false, .bool⟩)]⟩ .nil .nil))))) .nil))))) .nil))) } }
noncomputable def i_impl_EvalPlan : Inst := { f := 42, fn := Tryz.f42, n := 35, pds := [.rd (.sl 99 (.pr .str (.pr (.int .i64) .un))), .rd (.sl 53 (.sl 77 (.sl 3 (.int .i64)))), .rd (.sl 79 (.pr (.int .i64) (.pr .str (.pr (.int .i64) (.pr (.int .i64) (.pr (.int .i64) (.pr .bool (.pr (.sl 3 (.int .i64)) .un))))))))], caps := [], res := [⟨true, true, (.sl 77 (.sl 3 (.int .i64)))⟩, ⟨false, false, (.int .i64)⟩], h := { al := [], el := [], tk := [], nn := [], ca := [(12, 58), (17, 67), (22, 89), (28, 93), (34, 110)], code := (.two .nil (.two (.join ⟨[], [(23, .v ⟨false, false, .bool⟩)]⟩ .nil .nil) .nil)) } }
noncomputable def i_impl_StoreOk : Inst := { f := 106, fn := Tryz.f106, n := 49, pds := [.rd (.sl 99 (.pr .str (.pr (.int .i64) .un))), .rd (.sl 53 (.sl 77 (.sl 3 (.int .i64))))], caps := [], res := [⟨false, false, .bool⟩], h := { al := [], el := [], tk := [], nn := [], ca := [(10, 59), (45, 62)], code := (.two .nil (.two (.join ⟨[], [(18, .v ⟨false, false, .bool⟩)]⟩ .nil .nil) (.join ⟨[4], [(4, .v ⟨false, false, .bool⟩)]⟩ (.two .nil (.loop ⟨[4, 21], [(4, .v ⟨false, false, .bool⟩), (21, .v ⟨false, false, (.int .i64)⟩)]⟩ (.two .nil (.two .nil (.join ⟨[4], [(4, .v ⟨false, false, .bool⟩)]⟩ (.two .nil (.two .nil (.two .nil (.loop ⟨[4, 31], [(4, .v ⟨false, false, .bool⟩), (31, .v ⟨false, false, (.int .i64)⟩)]⟩ (.two .nil (.two .nil (.two (.two .nil (.join ⟨[], [(46, .v ⟨false, false, .bool⟩)]⟩ .nil .nil)) .nil))))))) .nil))))) .nil))) } }
noncomputable def i_impl_SchemaOk : Inst := { f := 101, fn := Tryz.f101, n := 41, pds := [.rd (.sl 99 (.pr .str (.pr (.int .i64) .un)))], caps := [], res := [⟨false, false, .bool⟩], h := { al := [], el := [], tk := [], nn := [], ca := [(14, 60), (19, 61)], code := (.two .nil (.join ⟨[2], [(2, .v ⟨false, false, .bool⟩)]⟩ (.two .nil (.loop ⟨[2, 7], [(2, .v ⟨false, false, .bool⟩), (7, .v ⟨false, false, (.int .i64)⟩)]⟩ (.two .nil (.two .nil (.two (.two .nil (.join ⟨[], [(36, .v ⟨false, false, .bool⟩)]⟩ .nil .nil)) .nil))))) .nil)) } }
noncomputable def i_impl_WordOk : Inst := { f := 159, fn := Tryz.f159, n := 38, pds := [.rd .str], caps := [], res := [⟨false, false, .bool⟩], h := { al := [], el := [], tk := [], nn := [], ca := [(37, 61)], code := (.two .nil (.join ⟨[2], [(2, .v ⟨false, false, .bool⟩)]⟩ (.two .nil (.loop ⟨[2, 8], [(2, .v ⟨false, false, .bool⟩), (8, .v ⟨false, false, (.int .i64)⟩)]⟩ (.two .nil (.two .nil (.two (.two .nil (.two .nil (.join ⟨[], [(5, .v ⟨false, false, .bool⟩)]⟩ .nil (.join ⟨[], [(33, .v ⟨false, false, .bool⟩)]⟩ .nil .nil)))) .nil))))) .nil)) } }
noncomputable def i_impl_in : Inst := { f := 81, fn := Tryz.f81, n := 15, pds := [.rd (.int .i64), .rd (.int .i64), .rd (.int .i64)], caps := [], res := [⟨false, false, .bool⟩], h := { al := [], el := [], tk := [], nn := [], ca := [], code := (.two .nil (.join ⟨[6], [(6, .v ⟨false, false, .bool⟩)]⟩ .nil .nil)) } }
noncomputable def i_slices_ContainsFunc_Lint_impl_StoreOk_1 : Inst := { f := 168, fn := Tryz.f168, n := 9, pds := [.rd (.sl 3 (.int .i64)), .fn 169 []], caps := [], res := [⟨false, false, .bool⟩], h := { al := [], el := [], tk := [], nn := [], ca := [(7, 63)], code := .nil } }
noncomputable def i_slices_IndexFunc_Lint_impl_StoreOk_1 : Inst := { f := 230, fn := Tryz.f230, n := 19, pds := [.rd (.sl 3 (.int .i64)), .fn 169 []], caps := [], res := [⟨false, false, (.int .i64)⟩], h := { al := [], el := [], tk := [], nn := [], ca := [(16, 64)], code := (.two .nil (.join ⟨[4], [(4, .v ⟨false, false, (.int .i64)⟩)]⟩ (.two .nil (.loop ⟨[4, 8], [(4, .v ⟨false, false, (.int .i64)⟩), (8, .v ⟨false, false, (.int .i64)⟩)]⟩ .nil)) .nil)) } }
noncomputable def i_impl_StoreOk_1 : Inst := { f := 169, fn := Tryz.f169, n := 6, pds := [.rd (.int .i64)], caps := [], res := [⟨false, false, .bool⟩], h := { al := [], el := [], tk := [], nn := [], ca := [(4, 65)], code := .nil } }
noncomputable def i_impl_isValue : Inst := { f := 170, fn := Tryz.f170, n := 9, pds := [.rd (.int .i64)], caps := [], res := [⟨false, false, .bool⟩], h := { al := [], el := [], tk := [], nn := [], ca := [(4, 66)], code := (.two .nil (.join ⟨[2], [(2, .v ⟨false, false, .bool⟩)]⟩ .nil .nil)) } }
noncomputable def i_impl_isNum : Inst := { f := 226, fn := Tryz.f226, n := 5, pds := [.rd (.int .i64)], caps := [], res := [⟨false, false, .bool⟩], h := { al := [], el := [], tk := [], nn := [], ca := [(4, 61)], code := .nil } }
noncomputable def i_impl_TypedOk : Inst := { f := 96, fn := Tryz.f96, n := 9, pds := [.rd (.sl 99 (.pr .str (.pr (.int .i64) .un))), .rd (.sl 79 (.pr (.int .i64) (.pr .str (.pr (.int .i64) (.pr (.int .i64) (.pr (.int .i64) (.pr .bool (.pr (.sl 3 (.int .i64)) .un))))))))], caps := [], res := [⟨false, false, .bool⟩], h := { al := [], el := [], tk := [], nn := [], ca := [(7, 68)], code := .nil } }
noncomputable def i_impl_WidthOf : Inst := { f := 39, fn := Tryz.f39, n := 16, pds := [.rd (.sl 99 (.pr .str (.pr (.int .i64) .un))), .rd (.sl 79 (.pr (.int .i64) (.pr .str (.pr (.int .i64) (.pr (.int .i64) (.pr (.int .i64) (.pr .bool (.pr (.sl 3 (.int .i64)) .un))))))))], caps := [], res := [⟨false, false, (.int .i64)⟩], h := { al := [], el := [], tk := [], nn := [], ca := [(6, 59), (10, 69), (15, 83)], code := (.two .nil (.two (.join ⟨[], [(12, .v ⟨false, false, .bool⟩)]⟩ .nil .nil) .nil)) } }
noncomputable def i_impl_PlanOk : Inst := { f := 102, fn := Tryz.f102, n := 16, pds := [.rd (.sl 79 (.pr (.int .i64) (.pr .str (.pr (.int .i64) (.pr (.int .i64) (.pr (.int .i64) (.pr .bool (.pr (.sl 3 (.int .i64)) .un))))))))], caps := [], res := [⟨false, false, .bool⟩], h := { al := [], el := [], tk := [], nn := [], ca := [(5, 61), (9, 70), (12, 81)], code := (.two .nil (.two (.join ⟨[], [(10, .v ⟨false, false, .bool⟩)]⟩ .nil .nil) .nil)) } }
noncomputable def i_slices_ContainsFunc_LimplNode_impl_PlanOk_1 : Inst := { f := 160, fn := Tryz.f160, n := 9, pds := [.rd (.sl 79 (.pr (.int .i64) (.pr .str (.pr (.int .i64) (.pr (.int .i64) (.pr (.int .i64) (.pr .bool (.pr (.sl 3 (.int .i64)) .un)))))))), .fn 161 []], caps := [], res := [⟨false, false, .bool⟩], h := { al := [], el := [], tk := [], nn := [], ca := [(7, 71)], code := .nil } }
noncomputable def i_slices_IndexFunc_LimplNode_impl_PlanOk_1 : Inst := { f := 223, fn := Tryz.f223, n := 19, pds := [.rd (.sl 79 (.pr (.int .i64) (.pr .str (.pr (.int .i64) (.pr (.int .i64) (.pr (.int .i64) (.pr .bool (.pr (.sl 3 (.int .i64)) .un)))))))), .fn 161 []], caps := [], res := [⟨false, false, (.int .i64)⟩], h := { al := [], el := [], tk := [], nn := [], ca := [(16, 72)], code := (.two .nil (.join ⟨[4], [(4, .v ⟨false, false, (.int .i64)⟩)]⟩ (.two .nil (.loop ⟨[4, 8], [(4, .v ⟨false, false, (.int .i64)⟩), (8, .v ⟨false, false, (.int .i64)⟩)]⟩ .nil)) .nil)) } }
noncomputable def i_impl_PlanOk_1 : Inst := { f := 161, fn := Tryz.f161, n := 6, pds := [.rd (.pr (.int .i64) (.pr .str (.pr (.int .i64) (.pr (.int .i64) (.pr (.int .i64) (.pr .bool (.pr (.sl 3 (.int .i64)) .un)))))))], caps := [], res := [⟨false, false, .bool⟩], h := { al := [], el := [], tk := [], nn := [], ca := [(4, 73)], code := .nil } }
noncomputable def i_impl_NodeOk : Inst := { f := 162, fn := Tryz.f162, n := 116, pds := [.rd (.pr (.int .i64) (.pr .str (.pr (.int .i64) (.pr (.int .i64) (.pr (.int .i64) (.pr .bool (.pr (.sl 3 (.int .i64)) .un)))))))], caps := [], res := [⟨false, false, .bool⟩], h := { al := [], el := [], tk := [], nn := [], ca := [(13, 60), (19, 74), (23, 61), (29, 66), (53, 75), (64, 61), (68, 76), (76, 74), (80, 74), (88, 74), (94, 61), (102, 75), (114, 79)], code := (.two .nil (.two .nil (.two .nil (.two .nil (.join ⟨[3, 4, 6], [(3, .bx 79 [⟨false, false, (.int .i64)⟩, ⟨false, false, .str⟩, ⟨false, false, (.int .i64)⟩, ⟨false, false, (.int .i64)⟩, ⟨false, false, (.int .i64)⟩, ⟨false, false, .bool⟩, ⟨false, false, (.sl 3 (.int .i64))⟩]), (4, .v ⟨false, false, .bool⟩)]⟩ (.two .nil (.two .nil (.two .nil (.two .nil (.two (.join ⟨[4], [(4, .v ⟨false, false, .bool⟩)]⟩ .nil (.join ⟨[4], [(4, .v ⟨false, false, .bool⟩)]⟩ .nil .nil)) (.two .nil (.two (.join ⟨[4], [(4, .v ⟨false, false, .bool⟩)]⟩ .nil .nil) (.two .nil (.two (.join ⟨[4], [(4, .v ⟨false, false, .bool⟩)]⟩ .nil .nil) (.two .nil (.two .nil (.two .nil (.two (.join ⟨[4], [(4, .v ⟨false, false, .bool⟩)]⟩ .nil .nil) (.join ⟨[], [(107, .v ⟨false, false, .bool⟩)]⟩ .nil .nil)))))))))))))) (.join ⟨[2], [(2, .v ⟨false, false, .bool⟩)]⟩ .nil .nil)))))) } }
noncomputable def i_impl_isCol : Inst := { f := 224, fn := Tryz.f224, n := 5, pds := [.rd (.int .i64)], caps := [], res := [⟨false, false, .bool⟩], h := { al := [], el := [], tk := [], nn := [], ca := [(4, 61)], code := .nil } }
noncomputable def i_impl_isSlot : Inst := { f := 225, fn := Tryz.f225, n := 5, pds := [.rd (.int .i64)], caps := [], res := [⟨false, false, .bool⟩], h := { al := [], el := [], tk := [], nn := [], ca := [(4, 61)], code := .nil } }
noncomputable def i_slices_ContainsFunc_Lint_impl_NodeOk_1 : Inst := { f := 168, fn := Tryz.f168, n := 9, pds := [.rd (.sl 3 (.int .i64)), .fn 227 []], caps := [], res := [⟨false, false, .bool⟩], h := { al := [], el := [], tk := [], nn := [], ca := [(7, 77)], code := .nil } }
noncomputable def i_slices_IndexFunc_Lint_impl_NodeOk_1 : Inst := { f := 230, fn := Tryz.f230, n := 19, pds := [.rd (.sl 3 (.int .i64)), .fn 227 []], caps := [], res := [⟨false, false, (.int .i64)⟩], h := { al := [], el := [], tk := [], nn := [], ca := [(16, 78)], code := (.two .nil (.join ⟨[4], [(4, .v ⟨false, false, (.int .i64)⟩)]⟩ (.two .nil (.loop ⟨[4, 8], [(4, .v ⟨false, false, (.int .i64)⟩), (8, .v ⟨false, false, (.int .i64)⟩)]⟩ .nil)) .nil)) } }
noncomputable def i_impl_NodeOk_1 : Inst := { f := 227, fn := Tryz.f227, n := 6, pds := [.rd (.int .i64)], caps := [], res := [⟨false, false, .bool⟩], h := { al := [], el := [], tk := [], nn := [], ca := [(4, 74)], code := .nil } }
noncomputable def i_impl_sameNode : Inst := { f := 100, fn := Tryz.f100, n := 52, pds := [.rd (.pr (.int .i64) (.pr .str (.pr (.int .i64) (.pr (.int .i64) (.pr (.int .i64) (.pr .bool (.pr (.sl 3 (.int .i64)) .un))))))), .rd (.pr (.int .i64) (.pr .str (.pr (.int .i64) (.pr (.int .i64) (.pr (.int .i64) (.pr .bool (.pr (.sl 3 (.int .i64)) .un)))))))], caps := [], res := [⟨false, false, .bool⟩], h := { al := [], el := [], tk := [], nn := [], ca := [(50, 80)], code := (.two .nil (.join ⟨[4], [(4, .v ⟨false, false, .bool⟩)]⟩ .nil .nil)) } }
noncomputable def i_slices_Equal_Lint : Inst := { f := 111, fn := Tryz.f111, n := 26, pds := [.rd (.sl 3 (.int .i64)), .rd (.sl 3 (.int .i64))], caps := [], res := [⟨false, false, .bool⟩], h := { al := [], el := [], tk := [], nn := [], ca := [], code := (.two .nil (.two .nil (.join ⟨[4], [(4, .v ⟨false, false, .bool⟩)]⟩ (.two .nil (.loop ⟨[4, 13], [(4, .v ⟨false, false, .bool⟩), (13, .v ⟨false, false, (.int .i64)⟩)]⟩ .nil)) .nil))) } }
noncomputable def i_impl_end : Inst := { f := 158, fn := Tryz.f158, n := 35, pds := [.rd (.sl 79 (.pr (.int .i64) (.pr .str (.pr (.int .i64) (.pr (.int .i64) (.pr (.int .i64) (.pr .bool (.pr (.sl 3 (.int .i64)) .un)))))))), .rd (.int .i64), .rd (.int .i64)], caps := [], res := [⟨false, false, (.int .i64)⟩], h := { al := [], el := [], tk := [], nn := [], ca := [(23, 82), (30, 81)], code := (.two .nil (.two (.join ⟨[], [(15, .v ⟨false, false, .bool⟩)]⟩ .nil .nil) (.two .nil (.join ⟨[6, 7], [(6, .v ⟨false, false, (.int .i64)⟩), (7, .v ⟨false, false, (.int .i64)⟩)]⟩ (.two .nil (.loop ⟨[6, 7, 24], [(6, .v ⟨false, false, (.int .i64)⟩), (7, .v ⟨false, false, (.int .i64)⟩), (24, .v ⟨false, false, (.int .i64)⟩)]⟩ .nil)) .nil)))) } }
noncomputable def i_impl_ArityOf : Inst := { f := 222, fn := Tryz.f222, n := 15, pds := [.rd (.int .i64)], caps := [], res := [⟨false, false, (.int .i64)⟩], h := { al := [], el := [], tk := [], nn := [], ca := [], code := (.two .nil (.two (.two .nil (.two .nil (.two .nil (.join ⟨[], [(6, .v ⟨false, false, .bool⟩)]⟩ .nil (.two .nil (.join ⟨[], [(9, .v ⟨false, false, .bool⟩)]⟩ .nil .nil)))))) .nil)) } }
noncomputable def i_impl_width : Inst := { f := 103, fn := Tryz.f103, n := 117, pds := [.rd (.sl 99 (.pr .str (.pr (.int .i64) .un))), .rd (.sl 79 (.pr (.int .i64) (.pr .str (.pr (.int .i64) (.pr (.int .i64) (.pr (.int .i64) (.pr .bool (.pr (.sl 3 (.int .i64)) .un)))))))), .rd (.int .i64)], caps := [], res := [⟨false, false, (.int .i64)⟩], h := { al := [56, 65, 76, 83, 89, 92, 98, 101, 107, 110, 114], el := [], tk := [], nn := [], ca := [(15, 84), (24, 83), (43, 85), (64, 88)], code := (.two .nil (.two .nil (.join ⟨[6, 7], [(6, .v ⟨false, false, (.int .i64)⟩), (7, .v ⟨true, true, (.sl 3 (.int .i64))⟩)]⟩ (.two .nil (.loop ⟨[6, 7, 17], [(6, .v ⟨false, false, (.int .i64)⟩), (7, .v ⟨true, true, (.sl 3 (.int .i64))⟩), (17, .v ⟨false, false, (.int .i64)⟩)]⟩ .nil)) (.two .nil (.join ⟨[6], [(6, .v ⟨false, false, (.int .i64)⟩)]⟩ (.two .nil (.two .nil (.two .nil (.join ⟨[], [(51, .v ⟨false, false, .bool⟩)]⟩ .nil (.two .nil (.two .nil (.two .nil (.two .nil (.two (.two (.join ⟨[], [(97, .v ⟨false, false, .bool⟩)]⟩ .nil .nil) .nil) .nil))))))))) .nil))))) } }
noncomputable def i_impl_children : Inst := { f := 163, fn := Tryz.f163, n := 26, pds := [.rd (.sl 79 (.pr (.int .i64) (.pr .str (.pr (.int .i64) (.pr (.int .i64) (.pr (.int .i64) (.pr .bool (.pr (.sl 3 (.int .i64)) .un)))))))), .rd (.int .i64)], caps := [], res := [⟨true, true, (.sl 3 (.int .i64))⟩], h := { al := [], el := [], tk := [], nn := [], ca := [(14, 82), (23, 81)], code := (.two .nil (.two .nil (.two .nil (.join ⟨[5, 6], [(5, .v ⟨true, true, (.sl 3 (.int .i64))⟩)]⟩ (.two .nil (.loop ⟨[5, 6, 15], [(5, .v ⟨true, true, (.sl 3 (.int .i64))⟩), (6, .v ⟨false, false, (.int .i64)⟩), (15, .v ⟨false, false, (.int .i64)⟩)]⟩ .nil)) .nil)))) } }
noncomputable def i_impl_tableAt : Inst := { f := 164, fn := Tryz.f164, n := 8, pds := [.rd (.sl 99 (.pr .str (.pr (.int .i64) .un))), .rd .str], caps := [], res := [⟨false, false, (.int .i64)⟩], h := { al := [], el := [], tk := [], nn := [], ca := [(7, 86)], code := .nil } }
noncomputable def i_slices_IndexFunc_LimplTable_impl_tableAt_1 : Inst := { f := 228, fn := Tryz.f228, n := 19, pds := [.rd (.sl 99 (.pr .str (.pr (.int .i64) .un))), .fn 229 [(true, 9, [⟨false, false, .str⟩])]], caps := [], res := [⟨false, false, (.int .i64)⟩], h := { al := [], el := [], tk := [], nn := [], ca := [(16, 87)], code := (.two .nil (.join ⟨[1, 4, 19], [(4, .v ⟨false, false, (.int .i64)⟩), (19, .bx 9 [⟨false, false, .str⟩])]⟩ (.two .nil (.loop ⟨[1, 4, 8, 19], [(1, .fix (.fn 229 [19])), (4, .v ⟨false, false, (.int .i64)⟩), (8, .v ⟨false, false, (.int .i64)⟩), (19, .bx 9 [⟨false, false, .str⟩])]⟩ .nil)) .nil)) } }
noncomputable def i_impl_tableAt_1 : Inst := { f := 229, fn := Tryz.f229, n := 8, pds := [.rd (.pr .str (.pr (.int .i64) .un))], caps := [(true, 9, [⟨false, false, .str⟩])], res := [⟨false, false, .bool⟩], h := { al := [], el := [], tk := [], nn := [], ca := [], code := .nil } }
noncomputable def i_slices_Max_Lint : Inst := { f := 165, fn := Tryz.f165, n := 25, pds := [.rd (.sl 3 (.int .i64))], caps := [], res := [⟨false, false, (.int .i64)⟩], h := { al := [], el := [], tk := [], nn := [], ca := [], code := (.two .nil (.join ⟨[], []⟩ .nil (.two .nil (.join ⟨[3], [(3, .v ⟨false, false, (.int .i64)⟩)]⟩ (.two .nil (.loop ⟨[3, 4], [(3, .v ⟨false, false, (.int .i64)⟩), (4, .v ⟨false, false, (.int .i64)⟩)]⟩ .nil)) .nil)))) } }
noncomputable def i_impl_hasSlot : Inst := { f := 107, fn := Tryz.f107, n := 5, pds := [.rd (.sl 79 (.pr (.int .i64) (.pr .str (.pr (.int .i64) (.pr (.int .i64) (.pr (.int .i64) (.pr .bool (.pr (.sl 3 (.int .i64)) .un))))))))], caps := [], res := [⟨false, false, .bool⟩], h := { al := [], el := [], tk := [], nn := [], ca := [(4, 90)], code := .nil } }
noncomputable def i_slices_ContainsFunc_LimplNode_impl_hasSlot_1 : Inst := { f := 160, fn := Tryz.f160, n := 9, pds := [.rd (.sl 79 (.pr (.int .i64) (.pr .str (.pr (.int .i64) (.pr (.int .i64) (.pr (.int .i64) (.pr .bool (.pr (.sl 3 (.int .i64)) .un)))))))), .fn 171 []], caps := [], res := [⟨false, false, .bool⟩], h := { al := [], el := [], tk := [], nn := [], ca := [(7, 91)], code := .nil } }
noncomputable def i_slices_IndexFunc_LimplNode_impl_hasSlot_1 : Inst := { f := 223, fn := Tryz.f223, n := 19, pds := [.rd (.sl 79 (.pr (.int .i64) (.pr .str (.pr (.int .i64) (.pr (.int .i64) (.pr (.int .i64) (.pr .bool (.pr (.sl 3 (.int .i64)) .un)))))))), .fn 171 []], caps := [], res := [⟨false, false, (.int .i64)⟩], h := { al := [], el := [], tk := [], nn := [], ca := [(16, 92)], code := (.two .nil (.join ⟨[4], [(4, .v ⟨false, false, (.int .i64)⟩)]⟩ (.two .nil (.loop ⟨[4, 8], [(4, .v ⟨false, false, (.int .i64)⟩), (8, .v ⟨false, false, (.int .i64)⟩)]⟩ .nil)) .nil)) } }
noncomputable def i_impl_hasSlot_1 : Inst := { f := 171, fn := Tryz.f171, n := 5, pds := [.rd (.pr (.int .i64) (.pr .str (.pr (.int .i64) (.pr (.int .i64) (.pr (.int .i64) (.pr .bool (.pr (.sl 3 (.int .i64)) .un)))))))], caps := [], res := [⟨false, false, .bool⟩], h := { al := [], el := [], tk := [], nn := [], ca := [], code := .nil } }
noncomputable def i_impl_eval : Inst := { f := 108, fn := Tryz.f108, n := 221, pds := [.rd (.sl 99 (.pr .str (.pr (.int .i64) .un))), .rd (.sl 53 (.sl 77 (.sl 3 (.int .i64)))), .rd (.sl 79 (.pr (.int .i64) (.pr .str (.pr (.int .i64) (.pr (.int .i64) (.pr (.int .i64) (.pr .bool (.pr (.sl 3 (.int .i64)) .un)))))))), .rd (.int .i64)], caps := [], res := [⟨false, false, (.sl 77 (.sl 3 (.int .i64)))⟩, ⟨false, false, .bool⟩], h := { al := [70, 92, 122, 130, 168, 171, 178, 182, 187, 192, 200, 208], el := [71, 93, 123, 131, 169, 172, 179, 188, 193, 201], tk := [], nn := [], hi := [10, 16, 117, 162], hs := [217], ca := [(32, 84), (43, 93), (65, 85), (84, 94), (161, 95), (175, 97), (181, 99), (184, 100), (210, 109)], code := (.two .nil (.two .nil (.join ⟨[8, 9, 10], [(8, .v ⟨true, true, (.sl 77 (.sl 3 (.int .i64)))⟩), (9, .v ⟨false, false, .bool⟩), (10, .v ⟨true, false, (.sl 53 (.sl 77 (.sl 3 (.int .i64))))⟩)]⟩ (.two .nil (.loop ⟨[8, 9, 10, 34], [(8, .v ⟨true, true, (.sl 77 (.sl 3 (.int .i64)))⟩), (9, .v ⟨false, false, .bool⟩), (10, .v ⟨true, false, (.sl 53 (.sl 77 (.sl 3 (.int .i64))))⟩), (34, .v ⟨false, false, (.int .i64)⟩)]⟩ .nil)) (.two .nil (.two .nil (.two (.two .nil (.two .nil (.two .nil (.two .nil (.two (.two .nil (.loop ⟨[16, 74], [(16, .v ⟨true, false, (.sl 77 (.sl 3 (.int .i64)))⟩), (74, .v ⟨false, false, (.int .i64)⟩)]⟩ (.two .nil (.two .nil (.join ⟨[16], [(16, .v ⟨true, false, (.sl 77 (.sl 3 (.int .i64)))⟩)]⟩ .nil .nil))))) (.two .nil (.two (.two .nil (.loop ⟨[16, 96], [(16, .v ⟨true, false, (.sl 77 (.sl 3 (.int .i64)))⟩), (96, .v ⟨false, false, (.int .i64)⟩)]⟩ (.two .nil (.two .nil (.join ⟨[16], [(16, .v ⟨true, false, (.sl 77 (.sl 3 (.int .i64)))⟩)]⟩ (.two .nil (.two .nil (.join ⟨[21], [(21, .v ⟨true, true, (.sl 3 (.int .i64))⟩)]⟩ (.two .nil (.loop ⟨[21, 103], [(21, .v ⟨true, true, (.sl 3 (.int .i64))⟩), (103, .v ⟨false, false, (.int .i64)⟩)]⟩ .nil)) .nil))) .nil))))) (.two .nil (.two (.two .nil (.loop ⟨[16, 126], [(16, .v ⟨true, false, (.sl 77 (.sl 3 (.int .i64)))⟩), (126, .v ⟨false, false, (.int .i64)⟩)]⟩ (.two .nil (.two .nil (.join ⟨[16], [(16, .v ⟨true, false, (.sl 77 (.sl 3 (.int .i64)))⟩)]⟩ (.two .nil (.two .nil (.loop ⟨[16, 134], [(16, .v ⟨true, false, (.sl 77 (.sl 3 (.int .i64)))⟩), (134, .v ⟨false, false, (.int .i64)⟩)]⟩ (.two .nil (.two .nil (.join ⟨[16], [(16, .v ⟨true, false, (.sl 77 (.sl 3 (.int .i64)))⟩)]⟩ (.two .nil (.join ⟨[], [(156, .v ⟨false, false, .bool⟩)]⟩ .nil .nil)) .nil)))))) .nil))))) (.two .nil (.two .nil (.two .nil (.two .nil (.two .nil (.two .nil (.two .nil (.two (.two .nil (.loop ⟨[16, 204], [(16, .v ⟨true, false, (.sl 77 (.sl 3 (.int .i64)))⟩), (204, .v ⟨false, false, (.int .i64)⟩)]⟩ (.two .nil (.two .nil (.join ⟨[16], [(16, .v ⟨true, false, (.sl 77 (.sl 3 (.int .i64)))⟩)]⟩ .nil .nil))))) .nil))))))))))))))))) .nil)))))) } }
noncomputable def i_impl_Node_keeps : Inst := { f := 172, fn := Tryz.f172, n := 35, pds := [.rd (.pr (.int .i64) (.pr .str (.pr (.int .i64) (.pr (.int .i64) (.pr (.int .i64) (.pr .bool (.pr (.sl 3 (.int .i64)) .un))))))), .rd (.int .i64)], caps := [], res := [⟨false, false, .bool⟩], h := { al := [], el := [], tk := [], nn := [], ca := [], code := (.two .nil (.two (.two .nil (.two .nil (.two .nil (.two .nil (.two .nil (.two .nil (.two (.join ⟨[4], [(4, .v ⟨false, false, .bool⟩)]⟩ .nil .nil) .nil))))))) (.join ⟨[4], [(4, .v ⟨false, false, .bool⟩)]⟩ .nil .nil))) } }
noncomputable def i_slices_Concat_Lint : Inst := { f := 173, fn := Tryz.f173, n := 36, pds := [.rd (.sl 77 (.sl 3 (.int .i64)))], caps := [], res := [⟨true, true, (.sl 3 (.int .i64))⟩], h := { al := [], el := [], tk := [], nn := [], ca := [(24, 96)], code := (.two .nil (.two .nil (.join ⟨[3], [(3, .v ⟨false, false, (.int .i64)⟩)]⟩ (.two .nil (.loop ⟨[3, 11], [(3, .v ⟨false, false, (.int .i64)⟩), (11, .v ⟨false, false, (.int .i64)⟩)]⟩ (.two .nil (.two .nil (.join ⟨[3], [(3, .v ⟨false, false, (.int .i64)⟩)]⟩ .nil .nil))))) (.two .nil (.join ⟨[6], [(6, .v ⟨true, true, (.sl 3 (.int .i64))⟩)]⟩ (.two .nil (.loop ⟨[6, 27], [(6, .v ⟨true, true, (.sl 3 (.int .i64))⟩), (27, .v ⟨false, false, (.int .i64)⟩)]⟩ .nil)) .nil))))) } }
noncomputable def i_slices_Grow_Lint : Inst := { f := 231, fn := Tryz.f231, n := 27, pds := [.ow true 3 (.int .i64), .rd (.int .i64)], caps := [], res := [⟨true, true, (.sl 3 (.int .i64))⟩], h := { al := [], el := [], tk := [25], nn := [], ca := [], code := .nil } }
noncomputable def i_slices_Concat_LLint : Inst := { f := 174, fn := Tryz.f174, n := 36, pds := [.rd (.sl 53 (.sl 77 (.sl 3 (.int .i64))))], caps := [], res := [⟨true, false, (.sl 77 (.sl 3 (.int .i64)))⟩], h := { al := [], el := [], tk := [], nn := [], hi := [24], ca := [(24, 98)], code := (.two .nil (.two .nil (.join ⟨[3], [(3, .v ⟨false, false, (.int .i64)⟩)]⟩ (.two .nil (.loop ⟨[3, 11], [(3, .v ⟨false, false, (.int .i64)⟩), (11, .v ⟨false, false, (.int .i64)⟩)]⟩ (.two .nil (.two .nil (.join ⟨[3], [(3, .v ⟨false, false, (.int .i64)⟩)]⟩ .nil .nil))))) (.two .nil (.join ⟨[6], [(6, .v ⟨true, false, (.sl 77 (.sl 3 (.int .i64)))⟩)]⟩ (.two .nil (.loop ⟨[6, 27], [(6, .v ⟨true, false, (.sl 77 (.sl 3 (.int .i64)))⟩), (27, .v ⟨false, false, (.int .i64)⟩)]⟩ .nil)) .nil))))) } }
noncomputable def i_slices_Grow_LLint : Inst := { f := 232, fn := Tryz.f232, n := 27, pds := [.ow true 77 (.sl 3 (.int .i64)), .rd (.int .i64)], caps := [], res := [⟨true, false, (.sl 77 (.sl 3 (.int .i64)))⟩], h := { al := [], el := [], tk := [25], nn := [], hi := [22], ca := [], code := .nil } }
noncomputable def i_slices_Clone_LLint : Inst := { f := 175, fn := Tryz.f175, n := 8, pds := [.rd (.sl 77 (.sl 3 (.int .i64)))], caps := [], res := [⟨true, false, (.sl 77 (.sl 3 (.int .i64)))⟩], h := { al := [], el := [], tk := [], nn := [], hi := [2, 5], ca := [], code := .nil } }
noncomputable def i_slices_SortStableFunc_LLint_impl_eval_1 : Inst := { f := 176, fn := Tryz.f176, n := 9, pds := [.mu true false 77 (.sl 3 (.int .i64)), .fn 177 [(true, 79, [⟨false, false, (.int .i64)⟩, ⟨false, false, .str⟩, ⟨false, false, (.int .i64)⟩, ⟨false, false, (.int .i64)⟩, ⟨false, false, (.int .i64)⟩, ⟨false, false, .bool⟩, ⟨false, false, (.sl 3 (.int .i64))⟩])]], caps := [], res := [], h := { al := [], el := [], tk := [], nn := [], ca := [(8, 101)], code := .nil } }
noncomputable def i_slices_stableCmpFunc_Lint_impl_eval_1 : Inst := { f := 233, fn := Tryz.f233, n := 63, pds := [.mu true false 77 (.sl 3 (.int .i64)), .rd (.int .i64), .fn 177 [(true, 79, [⟨false, false, (.int .i64)⟩, ⟨false, false, .str⟩, ⟨false, false, (.int .i64)⟩, ⟨false, false, (.int .i64)⟩, ⟨false, false, (.int .i64)⟩, ⟨false, false, .bool⟩, ⟨false, false, (.sl 3 (.int .i64))⟩])]], caps := [], res := [], h := { al := [], el := [], tk := [], nn := [], ca := [(18, 102), (27, 102), (43, 106), (60, 106)], code := (.two .nil (.two .nil (.join ⟨[0, 2, 7, 8, 63, 64], [(0, .fix (.eq 63)), (2, .fix (.fn 177 [64])), (7, .v ⟨false, false, (.int .i64)⟩), (63, .v ⟨true, false, (.sl 77 (.sl 3 (.int .i64)))⟩), (64, .bx 79 [⟨false, false, (.int .i64)⟩, ⟨false, false, .str⟩, ⟨false, false, (.int .i64)⟩, ⟨false, false, (.int .i64)⟩, ⟨false, false, (.int .i64)⟩, ⟨false, false, .bool⟩, ⟨false, false, (.sl 3 (.int .i64))⟩])]⟩ (.loop ⟨[0, 2, 7, 8, 63, 64], [(0, .fix (.eq 63)), (2, .fix (.fn 177 [64])), (7, .v ⟨false, false, (.int .i64)⟩), (8, .v ⟨false, false, (.int .i64)⟩), (63, .v ⟨true, false, (.sl 77 (.sl 3 (.int .i64)))⟩), (64, .bx 79 [⟨false, false, (.int .i64)⟩, ⟨false, false, .str⟩, ⟨false, false, (.int .i64)⟩, ⟨false, false, (.int .i64)⟩, ⟨false, false, (.int .i64)⟩, ⟨false, false, .bool⟩, ⟨false, false, (.sl 3 (.int .i64))⟩])]⟩ .nil) (.two .nil (.loop ⟨[0, 2, 6, 7, 23, 26, 63, 64], [(0, .fix (.eq 63)), (2, .fix (.fn 177 [64])), (6, .v ⟨false, false, (.int .i64)⟩), (63, .v ⟨true, false, (.sl 77 (.sl 3 (.int .i64)))⟩), (64, .bx 79 [⟨false, false, (.int .i64)⟩, ⟨false, false, .str⟩, ⟨false, false, (.int .i64)⟩, ⟨false, false, (.int .i64)⟩, ⟨false, false, (.int .i64)⟩, ⟨false, false, .bool⟩, ⟨false, false, (.sl 3 (.int .i64))⟩])]⟩ (.two .nil (.two .nil (.join ⟨[0, 2, 7, 8, 63, 64], [(0, .fix (.eq 63)), (2, .fix (.fn 177 [64])), (7, .v ⟨false, false, (.int .i64)⟩), (63, .v ⟨true, false, (.sl 77 (.sl 3 (.int .i64)))⟩), (64, .bx 79 [⟨false, false, (.int .i64)⟩, ⟨false, false, .str⟩, ⟨false, false, (.int .i64)⟩, ⟨false, false, (.int .i64)⟩, ⟨false, false, (.int .i64)⟩, ⟨false, false, .bool⟩, ⟨false, false, (.sl 3 (.int .i64))⟩])]⟩ (.loop ⟨[0, 2, 7, 8, 63, 64], [(0, .fix (.eq 63)), (2, .fix (.fn 177 [64])), (7, .v ⟨false, false, (.int .i64)⟩), (8, .v ⟨false, false, (.int .i64)⟩), (63, .v ⟨true, false, (.sl 77 (.sl 3 (.int .i64)))⟩), (64, .bx 79 [⟨false, false, (.int .i64)⟩, ⟨false, false, .str⟩, ⟨false, false, (.int .i64)⟩, ⟨false, false, (.int .i64)⟩, ⟨false, false, (.int .i64)⟩, ⟨false, false, .bool⟩, ⟨false, false, (.sl 3 (.int .i64))⟩])]⟩ .nil) (.join ⟨[0, 2, 63, 64], [(0, .fix (.eq 63)), (2, .fix (.fn 177 [64])), (63, .v ⟨true, false, (.sl 77 (.sl 3 (.int .i64)))⟩), (64, .bx 79 [⟨false, false, (.int .i64)⟩, ⟨false, false, .str⟩, ⟨false, false, (.int .i64)⟩, ⟨false, false, (.int .i64)⟩, ⟨false, false, (.int .i64)⟩, ⟨false, false, .bool⟩, ⟨false, false, (.sl 3 (.int .i64))⟩])]⟩ .nil .nil))))))))) } }
noncomputable def i_slices_insertionSortCmpFunc_Lint_impl_eval_1 : Inst := { f := 250, fn := Tryz.f250, n := 53, pds := [.mu true false 77 (.sl 3 (.int .i64)), .rd (.int .i64), .rd (.int .i64), .fn 177 [(true, 79, [⟨false, false, (.int .i64)⟩, ⟨false, false, .str⟩, ⟨false, false, (.int .i64)⟩, ⟨false, false, (.int .i64)⟩, ⟨false, false, (.int .i64)⟩, ⟨false, false, .bool⟩, ⟨false, false, (.sl 3 (.int .i64))⟩])]], caps := [], res := [], h := { al := [], el := [25, 30], tk := [], nn := [], ca := [(32, 103)], code := (.two .nil (.loop ⟨[0, 3, 8, 53, 54], [(0, .fix (.eq 53)), (3, .fix (.fn 177 [54])), (8, .v ⟨false, false, (.int .i64)⟩), (53, .v ⟨true, false, (.sl 77 (.sl 3 (.int .i64)))⟩), (54, .bx 79 [⟨false, false, (.int .i64)⟩, ⟨false, false, .str⟩, ⟨false, false, (.int .i64)⟩, ⟨false, false, (.int .i64)⟩, ⟨false, false, (.int .i64)⟩, ⟨false, false, .bool⟩, ⟨false, false, (.sl 3 (.int .i64))⟩])]⟩ (.two .nil (.join ⟨[0, 3, 53, 54], [(0, .fix (.eq 53)), (3, .fix (.fn 177 [54])), (53, .v ⟨true, false, (.sl 77 (.sl 3 (.int .i64)))⟩), (54, .bx 79 [⟨false, false, (.int .i64)⟩, ⟨false, false, .str⟩, ⟨false, false, (.int .i64)⟩, ⟨false, false, (.int .i64)⟩, ⟨false, false, (.int .i64)⟩, ⟨false, false, .bool⟩, ⟨false, false, (.sl 3 (.int .i64))⟩])]⟩ (.two .nil (.loop ⟨[0, 3, 9, 53, 54], [(0, .fix (.eq 53)), (3, .fix (.fn 177 [54])), (9, .v ⟨false, false, (.int .i64)⟩), (53, .v ⟨true, false, (.sl 77 (.sl 3 (.int .i64)))⟩), (54, .bx 79 [⟨false, false, (.int .i64)⟩, ⟨false, false, .str⟩, ⟨false, false, (.int .i64)⟩, ⟨false, false, (.int .i64)⟩, ⟨false, false, (.int .i64)⟩, ⟨false, false, .bool⟩, ⟨false, false, (.sl 3 (.int .i64))⟩])]⟩ (.two (.join ⟨[3, 54], [(3, .fix (.fn 177 [54])), (34, .v ⟨false, false, .bool⟩), (54, .bx 79 [⟨false, false, (.int .i64)⟩, ⟨false, false, .str⟩, ⟨false, false, (.int .i64)⟩, ⟨false, false, (.int .i64)⟩, ⟨false, false, (.int .i64)⟩, ⟨false, false, .bool⟩, ⟨false, false, (.sl 3 (.int .i64))⟩])]⟩ .nil .nil) .nil))) .nil)))) } }
noncomputable def i_impl_eval_1 : Inst := { f := 177, fn := Tryz.f177, n := 17, pds := [.rd (.sl 3 (.int .i64)), .rd (.sl 3 (.int .i64))], caps := [(true, 79, [⟨false, false, (.int .i64)⟩, ⟨false, false, .str⟩, ⟨false, false, (.int .i64)⟩, ⟨false, false, (.int .i64)⟩, ⟨false, false, (.int .i64)⟩, ⟨false, false, .bool⟩, ⟨false, false, (.sl 3 (.int .i64))⟩])], res := [⟨false, false, (.int .i64)⟩], h := { al := [], el := [], tk := [], nn := [], ca := [(16, 104)], code := .nil } }
noncomputable def i_cmp_Compare_int : Inst := { f := 178, fn := Tryz.f178, n := 20, pds := [.rd (.int .i64), .rd (.int .i64)], caps := [], res := [⟨false, false, (.int .i64)⟩], h := { al := [], el := [], tk := [], nn := [], ca := [(8, 105), (10, 105)], code := .nil } }
noncomputable def i_cmp_isNaN_int : Inst := { f := 234, fn := Tryz.f234, n := 6, pds := [.rd (.int .i64)], caps := [], res := [⟨false, false, .bool⟩], h := { al := [], el := [], tk := [], nn := [], ca := [], code := .nil } }
noncomputable def i_slices_symMergeCmpFunc_Lint_impl_eval_1 : Inst := { f := 251, fn := Tryz.f251, n := 220, pds := [.mu true false 77 (.sl 3 (.int .i64)), .rd (.int .i64), .rd (.int .i64), .rd (.int .i64), .fn 177 [(true, 79, [⟨false, false, (.int .i64)⟩, ⟨false, false, .str⟩, ⟨false, false, (.int .i64)⟩, ⟨false, false, (.int .i64)⟩, ⟨false, false, (.int .i64)⟩, ⟨false, false, .bool⟩, ⟨false, false, (.sl 3 (.int .i64))⟩])]], caps := [], res := [], h := { al := [], el := [43, 47, 95, 99, 163, 167], tk := [], nn := [], ca := [(49, 103), (101, 103), (169, 103), (191, 107), (205, 106), (219, 106)], code := (.join ⟨[0, 4, 220, 221], [(0, .fix (.eq 220)), (4, .fix (.fn 177 [221])), (220, .v ⟨true, false, (.sl 77 (.sl 3 (.int .i64)))⟩), (221, .bx 79 [⟨false, false, (.int .i64)⟩, ⟨false, false, .str⟩, ⟨false, false, (.int .i64)⟩, ⟨false, false, (.int .i64)⟩, ⟨false, false, (.int .i64)⟩, ⟨false, false, .bool⟩, ⟨false, false, (.sl 3 (.int .i64))⟩])]⟩ (.two .nil (.two (.two .nil (.two .nil (.join ⟨[4, 10, 11, 221], [(10, .v ⟨false, false, (.int .i64)⟩), (221, .bx 79 [⟨false, false, (.int .i64)⟩, ⟨false, false, .str⟩, ⟨false, false, (.int .i64)⟩, ⟨false, false, (.int .i64)⟩, ⟨false, false, (.int .i64)⟩, ⟨false, false, .bool⟩, ⟨false, false, (.sl 3 (.int .i64))⟩])]⟩ (.loop ⟨[4, 10, 11, 221], [(4, .fix (.fn 177 [221])), (10, .v ⟨false, false, (.int .i64)⟩), (11, .v ⟨false, false, (.int .i64)⟩), (221, .bx 79 [⟨false, false, (.int .i64)⟩, ⟨false, false, .str⟩, ⟨false, false, (.int .i64)⟩, ⟨false, false, (.int .i64)⟩, ⟨false, false, (.int .i64)⟩, ⟨false, false, .bool⟩, ⟨false, false, (.sl 3 (.int .i64))⟩])]⟩ .nil) (.join ⟨[0, 220], [(220, .v ⟨true, false, (.sl 77 (.sl 3 (.int .i64)))⟩)]⟩ (.two .nil (.loop ⟨[0, 13, 220], [(0, .fix (.eq 220)), (13, .v ⟨false, false, (.int .i64)⟩), (220, .v ⟨true, false, (.sl 77 (.sl 3 (.int .i64)))⟩)]⟩ .nil)) .nil)))) .nil)) (.join ⟨[0, 4, 220, 221], [(0, .fix (.eq 220)), (4, .fix (.fn 177 [221])), (220, .v ⟨true, false, (.sl 77 (.sl 3 (.int .i64)))⟩), (221, .bx 79 [⟨false, false, (.int .i64)⟩, ⟨false, false, .str⟩, ⟨false, false, (.int .i64)⟩, ⟨false, false, (.int .i64)⟩, ⟨false, false, (.int .i64)⟩, ⟨false, false, .bool⟩, ⟨false, false, (.sl 3 (.int .i64))⟩])]⟩ (.two .nil (.two (.two .nil (.two .nil (.join ⟨[4, 14, 15, 221], [(14, .v ⟨false, false, (.int .i64)⟩), (221, .bx 79 [⟨false, false, (.int .i64)⟩, ⟨false, false, .str⟩, ⟨false, false, (.int .i64)⟩, ⟨false, false, (.int .i64)⟩, ⟨false, false, (.int .i64)⟩, ⟨false, false, .bool⟩, ⟨false, false, (.sl 3 (.int .i64))⟩])]⟩ (.loop ⟨[4, 14, 15, 221], [(4, .fix (.fn 177 [221])), (14, .v ⟨false, false, (.int .i64)⟩), (15, .v ⟨false, false, (.int .i64)⟩), (221, .bx 79 [⟨false, false, (.int .i64)⟩, ⟨false, false, .str⟩, ⟨false, false, (.int .i64)⟩, ⟨false, false, (.int .i64)⟩, ⟨false, false, (.int .i64)⟩, ⟨false, false, .bool⟩, ⟨false, false, (.sl 3 (.int .i64))⟩])]⟩ .nil) (.join ⟨[0, 220], [(220, .v ⟨true, false, (.sl 77 (.sl 3 (.int .i64)))⟩)]⟩ (.two .nil (.loop ⟨[0, 17, 220], [(0, .fix (.eq 220)), (17, .v ⟨false, false, (.int .i64)⟩), (220, .v ⟨true, false, (.sl 77 (.sl 3 (.int .i64)))⟩)]⟩ .nil)) .nil)))) .nil)) (.two .nil (.two .nil (.two .nil (.join ⟨[20, 21], [(20, .v ⟨false, false, (.int .i64)⟩), (21, .v ⟨false, false, (.int .i64)⟩)]⟩ .nil (.two .nil (.join ⟨[4, 20, 21, 221], [(4, .fix (.fn 177 [221])), (20, .v ⟨false, false, (.int .i64)⟩), (221, .bx 79 [⟨false, false, (.int .i64)⟩, ⟨false, false, .str⟩, ⟨false, false, (.int .i64)⟩, ⟨false, false, (.int .i64)⟩, ⟨false, false, (.int .i64)⟩, ⟨false, false, .bool⟩, ⟨false, false, (.sl 3 (.int .i64))⟩])]⟩ (.loop ⟨[4, 20, 21, 221], [(4, .fix (.fn 177 [221])), (20, .v ⟨false, false, (.int .i64)⟩), (21, .v ⟨false, false, (.int .i64)⟩), (221, .bx 79 [⟨false, false, (.int .i64)⟩, ⟨false, false, .str⟩, ⟨false, false, (.int .i64)⟩, ⟨false, false, (.int .i64)⟩, ⟨false, false, (.int .i64)⟩, ⟨false, false, .bool⟩, ⟨false, false, (.sl 3 (.int .i64))⟩])]⟩ .nil) (.two .nil (.join ⟨[0, 4, 220, 221], [(0, .fix (.eq 220)), (4, .fix (.fn 177 [221])), (220, .v ⟨true, false, (.sl 77 (.sl 3 (.int .i64)))⟩), (221, .bx 79 [⟨false, false, (.int .i64)⟩, ⟨false, false, .str⟩, ⟨false, false, (.int .i64)⟩, ⟨false, false, (.int .i64)⟩, ⟨false, false, (.int .i64)⟩, ⟨false, false, .bool⟩, ⟨false, false, (.sl 3 (.int .i64))⟩])]⟩ (.join ⟨[], [(185, .v ⟨false, false, .bool⟩)]⟩ .nil .nil) (.join ⟨[0, 4, 220, 221], [(0, .fix (.eq 220)), (4, .fix (.fn 177 [221])), (220, .v ⟨true, false, (.sl 77 (.sl 3 (.int .i64)))⟩), (221, .bx 79 [⟨false, false, (.int .i64)⟩, ⟨false, false, .str⟩, ⟨false, false, (.int .i64)⟩, ⟨false, false, (.int .i64)⟩, ⟨false, false, (.int .i64)⟩, ⟨false, false, .bool⟩, ⟨false, false, (.sl 3 (.int .i64))⟩])]⟩ (.join ⟨[], [(199, .v ⟨false, false, .bool⟩)]⟩ .nil .nil) (.join ⟨[], [(213, .v ⟨false, false, .bool⟩)]⟩ .nil .nil)))))))))))) } }
noncomputable def i_slices_rotateCmpFunc_Lint_impl_eval_1 : Inst := { f := 262, fn := Tryz.f262, n := 58, pds := [.mu true false 77 (.sl 3 (.int .i64)), .rd (.int .i64), .rd (.int .i64), .rd (.int .i64), .fn 177 [(true, 79, [⟨false, false, (.int .i64)⟩, ⟨false, false, .str⟩, ⟨false, false, (.int .i64)⟩, ⟨false, false, (.int .i64)⟩, ⟨false, false, (.int .i64)⟩, ⟨false, false, .bool⟩, ⟨false, false, (.sl 3 (.int .i64))⟩])]], caps := [], res := [], h := { al := [], el := [], tk := [], nn := [], ca := [(31, 108), (46, 108), (57, 108)], code := (.two .nil (.two .nil (.join ⟨[0, 4, 10, 11, 58, 59], [(0, .fix (.eq 58)), (4, .fix (.fn 177 [59])), (10, .v ⟨false, false, (.int .i64)⟩), (58, .v ⟨true, false, (.sl 77 (.sl 3 (.int .i64)))⟩), (59, .bx 79 [⟨false, false, (.int .i64)⟩, ⟨false, false, .str⟩, ⟨false, false, (.int .i64)⟩, ⟨false, false, (.int .i64)⟩, ⟨false, false, (.int .i64)⟩, ⟨false, false, .bool⟩, ⟨false, false, (.sl 3 (.int .i64))⟩])]⟩ (.loop ⟨[0, 4, 10, 11, 58, 59], [(0, .fix (.eq 58)), (4, .fix (.fn 177 [59])), (10, .v ⟨false, false, (.int .i64)⟩), (11, .v ⟨false, false, (.int .i64)⟩), (58, .v ⟨true, false, (.sl 77 (.sl 3 (.int .i64)))⟩), (59, .bx 79 [⟨false, false, (.int .i64)⟩, ⟨false, false, .str⟩, ⟨false, false, (.int .i64)⟩, ⟨false, false, (.int .i64)⟩, ⟨false, false, (.int .i64)⟩, ⟨false, false, .bool⟩, ⟨false, false, (.sl 3 (.int .i64))⟩])]⟩ .nil) .nil))) } }
noncomputable def i_slices_swapRangeCmpFunc_Lint_impl_eval_1 : Inst := { f := 292, fn := Tryz.f292, n := 38, pds := [.mu true false 77 (.sl 3 (.int .i64)), .rd (.int .i64), .rd (.int .i64), .rd (.int .i64), .fn 177 [(true, 79, [⟨false, false, (.int .i64)⟩, ⟨false, false, .str⟩, ⟨false, false, (.int .i64)⟩, ⟨false, false, (.int .i64)⟩, ⟨false, false, (.int .i64)⟩, ⟨false, false, .bool⟩, ⟨false, false, (.sl 3 (.int .i64))⟩])]], caps := [], res := [], h := { al := [], el := [], tk := [], nn := [], ca := [], code := (.two .nil (.loop ⟨[0, 10, 38], [(0, .fix (.eq 38)), (10, .v ⟨false, false, (.int .i64)⟩), (38, .v ⟨true, false, (.sl 77 (.sl 3 (.int .i64)))⟩)]⟩ .nil)) } }
noncomputable def i_impl_CountSame : Inst := { f := 179, fn := Tryz.f179, n := 21, pds := [.rd (.sl 77 (.sl 3 (.int .i64))), .rd (.sl 3 (.int .i64))], caps := [], res := [⟨false, false, (.int .i64)⟩], h := { al := [], el := [], tk := [], nn := [], ca := [(16, 80)], code := (.two .nil (.two .nil (.join ⟨[5], [(5, .v ⟨false, false, (.int .i64)⟩)]⟩ (.two .nil (.loop ⟨[5, 10], [(5, .v ⟨false, false, (.int .i64)⟩), (10, .v ⟨false, false, (.int .i64)⟩)]⟩ (.two .nil (.two .nil (.join ⟨[5], [(5, .v ⟨false, false, (.int .i64)⟩)]⟩ .nil .nil))))) .nil))) } }
noncomputable def i_impl_ownRows : Inst := { f := 109, fn := Tryz.f109, n := 19, pds := [.rd (.sl 77 (.sl 3 (.int .i64)))], caps := [], res := [⟨true, true, (.sl 77 (.sl 3 (.int .i64)))⟩], h := { al := [], el := [], tk := [], nn := [], ca := [(14, 111)], code := (.two .nil (.two .nil (.join ⟨[3], [(3, .v ⟨true, true, (.sl 77 (.sl 3 (.int .i64)))⟩)]⟩ (.two .nil (.loop ⟨[3, 8], [(3, .v ⟨true, true, (.sl 77 (.sl 3 (.int .i64)))⟩), (8, .v ⟨false, false, (.int .i64)⟩)]⟩ .nil)) .nil))) } }
noncomputable def i_slices_Clone_Lint : Inst := { f := 155, fn := Tryz.f155, n := 8, pds := [.rd (.sl 3 (.int .i64))], caps := [], res := [⟨true, true, (.sl 3 (.int .i64))⟩], h := { al := [], el := [], tk := [], nn := [], ca := [], code := .nil } }
noncomputable def i_impl_SameRows : Inst := { f := 43, fn := Tryz.f43, n := 8, pds := [.rd (.sl 77 (.sl 3 (.int .i64))), .rd (.sl 77 (.sl 3 (.int .i64)))], caps := [], res := [⟨false, false, .bool⟩], h := { al := [], el := [], tk := [], nn := [], ca := [(7, 113)], code := .nil } }
noncomputable def i_slices_EqualFunc_LLint_slices_Equal_Lint : Inst := { f := 110, fn := Tryz.f110, n := 32, pds := [.rd (.sl 77 (.sl 3 (.int .i64))), .rd (.sl 77 (.sl 3 (.int .i64))), .fn 111 []], caps := [], res := [⟨false, false, .bool⟩], h := { al := [], el := [], tk := [], nn := [], ca := [(29, 80)], code := (.two .nil (.two .nil (.join ⟨[6], [(6, .v ⟨false, false, .bool⟩)]⟩ (.two .nil (.loop ⟨[6, 17], [(6, .v ⟨false, false, .bool⟩), (17, .v ⟨false, false, (.int .i64)⟩)]⟩ .nil)) .nil))) } }
noncomputable def i_laws_eqTableS : Inst := { f := 21, fn := Tryz.f21, n := 27, pds := [.rd (.sl 99 (.pr .str (.pr (.int .i64) .un))), .rd (.sl 99 (.pr .str (.pr (.int .i64) .un)))], caps := [], res := [⟨false, false, .bool⟩], h := { al := [], el := [], tk := [], nn := [], ca := [(25, 115)], code := (.two .nil (.two .nil (.join ⟨[4], [(4, .v ⟨false, false, .bool⟩)]⟩ (.two .nil (.loop ⟨[4, 5], [(4, .v ⟨false, false, .bool⟩), (5, .v ⟨false, false, (.int .i64)⟩)]⟩ .nil)) .nil))) } }
noncomputable def i_laws_eqTable : Inst := { f := 78, fn := Tryz.f78, n := 15, pds := [.rd (.pr .str (.pr (.int .i64) .un)), .rd (.pr .str (.pr (.int .i64) .un))], caps := [], res := [⟨false, false, .bool⟩], h := { al := [], el := [], tk := [], nn := [], ca := [], code := .nil } }
noncomputable def i_laws_eqIntSSS : Inst := { f := 31, fn := Tryz.f31, n := 27, pds := [.rd (.sl 53 (.sl 77 (.sl 3 (.int .i64)))), .rd (.sl 53 (.sl 77 (.sl 3 (.int .i64))))], caps := [], res := [⟨false, false, .bool⟩], h := { al := [], el := [], tk := [], nn := [], ca := [(25, 117)], code := (.two .nil (.two .nil (.join ⟨[4], [(4, .v ⟨false, false, .bool⟩)]⟩ (.two .nil (.loop ⟨[4, 5], [(4, .v ⟨false, false, .bool⟩), (5, .v ⟨false, false, (.int .i64)⟩)]⟩ .nil)) .nil))) } }
noncomputable def i_laws_eqIntSS : Inst := { f := 85, fn := Tryz.f85, n := 27, pds := [.rd (.sl 77 (.sl 3 (.int .i64))), .rd (.sl 77 (.sl 3 (.int .i64)))], caps := [], res := [⟨false, false, .bool⟩], h := { al := [], el := [], tk := [], nn := [], ca := [(25, 118)], code := (.two .nil (.two .nil (.join ⟨[4], [(4, .v ⟨false, false, .bool⟩)]⟩ (.two .nil (.loop ⟨[4, 5], [(4, .v ⟨false, false, .bool⟩), (5, .v ⟨false, false, (.int .i64)⟩)]⟩ .nil)) .nil))) } }
noncomputable def i_laws_eqIntS : Inst := { f := 141, fn := Tryz.f141, n := 26, pds := [.rd (.sl 3 (.int .i64)), .rd (.sl 3 (.int .i64))], caps := [], res := [⟨false, false, .bool⟩], h := { al := [], el := [], tk := [], nn := [], ca := [], code := (.two .nil (.two .nil (.join ⟨[4], [(4, .v ⟨false, false, .bool⟩)]⟩ (.two .nil (.loop ⟨[4, 5], [(4, .v ⟨false, false, .bool⟩), (5, .v ⟨false, false, (.int .i64)⟩)]⟩ .nil)) .nil))) } }
noncomputable def i_laws_eqOpS : Inst := { f := 50, fn := Tryz.f50, n := 27, pds := [.rd (.sl 134 (.pr (.int .i64) (.pr (.sl 79 (.pr (.int .i64) (.pr .str (.pr (.int .i64) (.pr (.int .i64) (.pr (.int .i64) (.pr .bool (.pr (.sl 3 (.int .i64)) .un)))))))) (.pr (.sl 79 (.pr (.int .i64) (.pr .str (.pr (.int .i64) (.pr (.int .i64) (.pr (.int .i64) (.pr .bool (.pr (.sl 3 (.int .i64)) .un)))))))) (.pr (.sl 45 (.pr (.int .i64) (.pr (.int .i64) .un))) .un))))), .rd (.sl 134 (.pr (.int .i64) (.pr (.sl 79 (.pr (.int .i64) (.pr .str (.pr (.int .i64) (.pr (.int .i64) (.pr (.int .i64) (.pr .bool (.pr (.sl 3 (.int .i64)) .un)))))))) (.pr (.sl 79 (.pr (.int .i64) (.pr .str (.pr (.int .i64) (.pr (.int .i64) (.pr (.int .i64) (.pr .bool (.pr (.sl 3 (.int .i64)) .un)))))))) (.pr (.sl 45 (.pr (.int .i64) (.pr (.int .i64) .un))) .un)))))], caps := [], res := [⟨false, false, .bool⟩], h := { al := [], el := [], tk := [], nn := [], ca := [(25, 120)], code := (.two .nil (.two .nil (.join ⟨[4], [(4, .v ⟨false, false, .bool⟩)]⟩ (.two .nil (.loop ⟨[4, 5], [(4, .v ⟨false, false, .bool⟩), (5, .v ⟨false, false, (.int .i64)⟩)]⟩ .nil)) .nil))) } }
noncomputable def i_laws_eqOp : Inst := { f := 114, fn := Tryz.f114, n := 28, pds := [.rd (.pr (.int .i64) (.pr (.sl 79 (.pr (.int .i64) (.pr .str (.pr (.int .i64) (.pr (.int .i64) (.pr (.int .i64) (.pr .bool (.pr (.sl 3 (.int .i64)) .un)))))))) (.pr (.sl 79 (.pr (.int .i64) (.pr .str (.pr (.int .i64) (.pr (.int .i64) (.pr (.int .i64) (.pr .bool (.pr (.sl 3 (.int .i64)) .un)))))))) (.pr (.sl 45 (.pr (.int .i64) (.pr (.int .i64) .un))) .un)))), .rd (.pr (.int .i64) (.pr (.sl 79 (.pr (.int .i64) (.pr .str (.pr (.int .i64) (.pr (.int .i64) (.pr (.int .i64) (.pr .bool (.pr (.sl 3 (.int .i64)) .un)))))))) (.pr (.sl 79 (.pr (.int .i64) (.pr .str (.pr (.int .i64) (.pr (.int .i64) (.pr (.int .i64) (.pr .bool (.pr (.sl 3 (.int .i64)) .un)))))))) (.pr (.sl 45 (.pr (.int .i64) (.pr (.int .i64) .un))) .un))))], caps := [], res := [⟨false, false, .bool⟩], h := { al := [], el := [], tk := [], nn := [], ca := [(14, 121), (20, 121), (26, 123)], code := .nil } }
noncomputable def i_laws_eqNodeS : Inst := { f := 22, fn := Tryz.f22, n := 27, pds := [.rd (.sl 79 (.pr (.int .i64) (.pr .str (.pr (.int .i64) (.pr (.int .i64) (.pr (.int .i64) (.pr .bool (.pr (.sl 3 (.int .i64)) .un)))))))), .rd (.sl 79 (.pr (.int .i64) (.pr .str (.pr (.int .i64) (.pr (.int .i64) (.pr (.int .i64) (.pr .bool (.pr (.sl 3 (.int .i64)) .un))))))))], caps := [], res := [⟨false, false, .bool⟩], h := { al := [], el := [], tk := [], nn := [], ca := [(25, 122)], code := (.two .nil (.two .nil (.join ⟨[4], [(4, .v ⟨false, false, .bool⟩)]⟩ (.two .nil (.loop ⟨[4, 5], [(4, .v ⟨false, false, .bool⟩), (5, .v ⟨false, false, (.int .i64)⟩)]⟩ .nil)) .nil))) } }
noncomputable def i_laws_eqNode : Inst := { f := 79, fn := Tryz.f79, n := 41, pds := [.rd (.pr (.int .i64) (.pr .str (.pr (.int .i64) (.pr (.int .i64) (.pr (.int .i64) (.pr .bool (.pr (.sl 3 (.int .i64)) .un))))))), .rd (.pr (.int .i64) (.pr .str (.pr (.int .i64) (.pr (.int .i64) (.pr (.int .i64) (.pr .bool (.pr (.sl 3 (.int .i64)) .un)))))))], caps := [], res := [⟨false, false, .bool⟩], h := { al := [], el := [], tk := [], nn := [], ca := [(39, 118)], code := .nil } }
noncomputable def i_laws_eqStepS : Inst := { f := 182, fn := Tryz.f182, n := 27, pds := [.rd (.sl 45 (.pr (.int .i64) (.pr (.int .i64) .un))), .rd (.sl 45 (.pr (.int .i64) (.pr (.int .i64) .un)))], caps := [], res := [⟨false, false, .bool⟩], h := { al := [], el := [], tk := [], nn := [], ca := [(25, 124)], code := (.two .nil (.two .nil (.join ⟨[4], [(4, .v ⟨false, false, .bool⟩)]⟩ (.two .nil (.loop ⟨[4, 5], [(4, .v ⟨false, false, .bool⟩), (5, .v ⟨false, false, (.int .i64)⟩)]⟩ .nil)) .nil))) } }
noncomputable def i_laws_eqStep : Inst := { f := 236, fn := Tryz.f236, n := 15, pds := [.rd (.pr (.int .i64) (.pr (.int .i64) .un)), .rd (.pr (.int .i64) (.pr (.int .i64) .un))], caps := [], res := [⟨false, false, .bool⟩], h := { al := [], el := [], tk := [], nn := [], ca := [], code := .nil } }
noncomputable def i_laws_eqNodeSS : Inst := { f := 51, fn := Tryz.f51, n := 27, pds := [.rd (.sl 29 (.sl 79 (.pr (.int .i64) (.pr .str (.pr (.int .i64) (.pr (.int .i64) (.pr (.int .i64) (.pr .bool (.pr (.sl 3 (.int .i64)) .un))))))))), .rd (.sl 29 (.sl 79 (.pr (.int .i64) (.pr .str (.pr (.int .i64) (.pr (.int .i64) (.pr (.int .i64) (.pr .bool (.pr (.sl 3 (.int .i64)) .un)))))))))], caps := [], res := [⟨false, false, .bool⟩], h := { al := [], el := [], tk := [], nn := [], ca := [(25, 121)], code := (.two .nil (.two .nil (.join ⟨[4], [(4, .v ⟨false, false, .bool⟩)]⟩ (.two .nil (.loop ⟨[4, 5], [(4, .v ⟨false, false, .bool⟩), (5, .v ⟨false, false, (.int .i64)⟩)]⟩ .nil)) .nil))) } }
noncomputable def FTL : List Inst := [i_laws_FnExactPlansMean, i_laws_szTableS, i_laws_szTable, i_laws_szIntSSS, i_laws_szIntSS, i_laws_szIntS, i_laws_szOpS, i_laws_szOp, i_laws_szNodeS, i_laws_szNode, i_laws_szStepS, i_laws_szNodeSS, i_laws_toTableS, i_laws_toTable, i_laws_toIntSSS, i_laws_toIntSS, i_laws_toIntS, i_laws_toOpS, i_laws_toOp, i_laws_toNodeS, i_laws_toNode, i_laws_toStepS, i_laws_toStep, i_laws_toNodeSS, i_spec_PlansMean, i_spec_EvalPlan, i_spec_StoreOk, i_spec_SchemaOk, i_spec_WordOk, i_spec_l01In, i_spec_l01Less, i_spec_l04Value, i_spec_l01Number, i_spec_TypedOk, i_spec_WidthOf, i_spec_PlanOk, i_spec_NodeOk, i_spec_l02Col, i_spec_l02End, i_spec_ArityOf, i_spec_l03Width, i_spec_l02Kids, i_spec_l03Find, i_spec_l04Eval, i_spec_l04Filter, i_spec_l04Holds, i_spec_l04Keep, i_spec_l04Join, i_spec_l01Copy, i_spec_l04Sort, i_spec_l04Once, i_spec_CountSame, i_spec_l02SameInts, i_spec_l04Copy, i_spec_MeansSame, i_spec_SameRows, i_impl_PlansMean, i_impl_EvalPlan, i_impl_StoreOk, i_impl_SchemaOk, i_impl_WordOk, i_impl_in, i_slices_ContainsFunc_Lint_impl_StoreOk_1, i_slices_IndexFunc_Lint_impl_StoreOk_1, i_impl_StoreOk_1, i_impl_isValue, i_impl_isNum, i_impl_TypedOk, i_impl_WidthOf, i_impl_PlanOk, i_slices_ContainsFunc_LimplNode_impl_PlanOk_1, i_slices_IndexFunc_LimplNode_impl_PlanOk_1, i_impl_PlanOk_1, i_impl_NodeOk, i_impl_isCol, i_impl_isSlot, i_slices_ContainsFunc_Lint_impl_NodeOk_1, i_slices_IndexFunc_Lint_impl_NodeOk_1, i_impl_NodeOk_1, i_impl_sameNode, i_slices_Equal_Lint, i_impl_end, i_impl_ArityOf, i_impl_width, i_impl_children, i_impl_tableAt, i_slices_IndexFunc_LimplTable_impl_tableAt_1, i_impl_tableAt_1, i_slices_Max_Lint, i_impl_hasSlot, i_slices_ContainsFunc_LimplNode_impl_hasSlot_1, i_slices_IndexFunc_LimplNode_impl_hasSlot_1, i_impl_hasSlot_1, i_impl_eval, i_impl_Node_keeps, i_slices_Concat_Lint, i_slices_Grow_Lint, i_slices_Concat_LLint, i_slices_Grow_LLint, i_slices_Clone_LLint, i_slices_SortStableFunc_LLint_impl_eval_1, i_slices_stableCmpFunc_Lint_impl_eval_1, i_slices_insertionSortCmpFunc_Lint_impl_eval_1, i_impl_eval_1, i_cmp_Compare_int, i_cmp_isNaN_int, i_slices_symMergeCmpFunc_Lint_impl_eval_1, i_slices_rotateCmpFunc_Lint_impl_eval_1, i_slices_swapRangeCmpFunc_Lint_impl_eval_1, i_impl_CountSame, i_impl_ownRows, i_slices_Clone_Lint, i_impl_SameRows, i_slices_EqualFunc_LLint_slices_Equal_Lint, i_laws_eqTableS, i_laws_eqTable, i_laws_eqIntSSS, i_laws_eqIntSS, i_laws_eqIntS, i_laws_eqOpS, i_laws_eqOp, i_laws_eqNodeS, i_laws_eqNode, i_laws_eqStepS, i_laws_eqStep, i_laws_eqNodeSS]
noncomputable def FT (j : Nat) : Inst := FTL.getD j i_laws_FnExactPlansMean
noncomputable def SP (j : Nat) : Option (InVals (FT j) → Option (Tup (outTys (FT j)))) := none
theorem ft_ok : FTok Tryz.prog tt FT SP := FTok.of tt_ok (by kernel_rfl) ⟨Tryz.func9, Tryz.func9, Tryz.func15, Tryz.func72, Tryz.func27, Tryz.func82, Tryz.func135, Tryz.func44, Tryz.func112, Tryz.func16, Tryz.func73, Tryz.func180, Tryz.func45, Tryz.func18, Tryz.func75, Tryz.func29, Tryz.func84, Tryz.func139, Tryz.func47, Tryz.func113, Tryz.func19, Tryz.func76, Tryz.func181, Tryz.func235, Tryz.func48, Tryz.func46, Tryz.func74, Tryz.func136, Tryz.func104, Tryz.func166, Tryz.func80, Tryz.func167, Tryz.func205, Tryz.func219, Tryz.func57, Tryz.func118, Tryz.func95, Tryz.func154, Tryz.func218, Tryz.func93, Tryz.func153, Tryz.func152, Tryz.func151, Tryz.func206, Tryz.func137, Tryz.func207, Tryz.func245, Tryz.func208, Tryz.func209, Tryz.func150, Tryz.func210, Tryz.func211, Tryz.func246, Tryz.func142, Tryz.func138, Tryz.func28, Tryz.func83, Tryz.func49, Tryz.func42, Tryz.func106, Tryz.func101, Tryz.func159, Tryz.func81, Tryz.func168, Tryz.func230, Tryz.func169, Tryz.func170, Tryz.func226, Tryz.func96, Tryz.func39, Tryz.func102, Tryz.func160, Tryz.func223, Tryz.func161, Tryz.func162, Tryz.func224, Tryz.func225, Tryz.func168, Tryz.func230, Tryz.func227, Tryz.func100, Tryz.func111, Tryz.func158, Tryz.func222, Tryz.func103, Tryz.func163, Tryz.func164, Tryz.func228, Tryz.func229, Tryz.func165, Tryz.func107, Tryz.func160, Tryz.func223, Tryz.func171, Tryz.func108, Tryz.func172, Tryz.func173, Tryz.func231, Tryz.func174, Tryz.func232, Tryz.func175, Tryz.func176, Tryz.func233, Tryz.func250, Tryz.func177, Tryz.func178, Tryz.func234, Tryz.func251, Tryz.func262, Tryz.func292, Tryz.func179, Tryz.func109, Tryz.func155, Tryz.func43, Tryz.func110, Tryz.func21, Tryz.func78, Tryz.func31, Tryz.func85, Tryz.func141, Tryz.func50, Tryz.func114, Tryz.func22, Tryz.func79, Tryz.func182, Tryz.func236, Tryz.func51, trivial⟩ (by kernel_rfl) (fun _ _ h => by cases h)
noncomputable def F_laws_FnExactPlansMean (a0 : List STable) (a1 : List (List (List Int))) (a2 : List SOp) (a3 : List (List SNode)) : Option Bool := callL tt FT SP 0 (show InVals (FT 0) from ((a0, a1, a2, a3, ()), (())))
noncomputable def F_laws_szTableS (a0 : List STable) (a1 : Int) : Option Int := callL tt FT SP 1 (show InVals (FT 1) from ((a0, a1, ()), (())))
noncomputable def F_laws_szTable (a0 : STable) (a1 : Int) : Option Int := callL tt FT SP 2 (show InVals (FT 2) from ((a0, a1, ()), (())))
noncomputable def F_laws_szIntSSS (a0 : List (List (List Int))) (a1 : Int) : Option Int := callL tt FT SP 3 (show InVals (FT 3) from ((a0, a1, ()), (())))
noncomputable def F_laws_szIntSS (a0 : List (List Int)) (a1 : Int) : Option Int := callL tt FT SP 4 (show InVals (FT 4) from ((a0, a1, ()), (())))
noncomputable def F_laws_szIntS (a0 : List Int) (a1 : Int) : Option Int := callL tt FT SP 5 (show InVals (FT 5) from ((a0, a1, ()), (())))
noncomputable def F_laws_szOpS (a0 : List SOp) (a1 : Int) : Option Int := callL tt FT SP 6 (show InVals (FT 6) from ((a0, a1, ()), (())))
noncomputable def F_laws_szOp (a0 : SOp) (a1 : Int) : Option Int := callL tt FT SP 7 (show InVals (FT 7) from ((a0, a1, ()), (())))
noncomputable def F_laws_szNodeS (a0 : List SNode) (a1 : Int) : Option Int := callL tt FT SP 8 (show InVals (FT 8) from ((a0, a1, ()), (())))
noncomputable def F_laws_szNode (a0 : SNode) (a1 : Int) : Option Int := callL tt FT SP 9 (show InVals (FT 9) from ((a0, a1, ()), (())))
noncomputable def F_laws_szStepS (a0 : List SStep) (a1 : Int) : Option Int := callL tt FT SP 10 (show InVals (FT 10) from ((a0, a1, ()), (())))
noncomputable def F_laws_szNodeSS (a0 : List (List SNode)) (a1 : Int) : Option Int := callL tt FT SP 11 (show InVals (FT 11) from ((a0, a1, ()), (())))
noncomputable def F_laws_toTableS (a0 : List STable) : Option (List STable) := callL tt FT SP 12 (show InVals (FT 12) from ((a0, ()), (())))
noncomputable def F_laws_toTable (a0 : STable) : Option STable := callL tt FT SP 13 (show InVals (FT 13) from ((a0, ()), (())))
noncomputable def F_laws_toIntSSS (a0 : List (List (List Int))) : Option (List (List (List Int))) := callL tt FT SP 14 (show InVals (FT 14) from ((a0, ()), (())))
noncomputable def F_laws_toIntSS (a0 : List (List Int)) : Option (List (List Int)) := callL tt FT SP 15 (show InVals (FT 15) from ((a0, ()), (())))
noncomputable def F_laws_toIntS (a0 : List Int) : Option (List Int) := callL tt FT SP 16 (show InVals (FT 16) from ((a0, ()), (())))
noncomputable def F_laws_toOpS (a0 : List SOp) : Option (List SOp) := callL tt FT SP 17 (show InVals (FT 17) from ((a0, ()), (())))
noncomputable def F_laws_toOp (a0 : SOp) : Option SOp := callL tt FT SP 18 (show InVals (FT 18) from ((a0, ()), (())))
noncomputable def F_laws_toNodeS (a0 : List SNode) : Option (List SNode) := callL tt FT SP 19 (show InVals (FT 19) from ((a0, ()), (())))
noncomputable def F_laws_toNode (a0 : SNode) : Option SNode := callL tt FT SP 20 (show InVals (FT 20) from ((a0, ()), (())))
noncomputable def F_laws_toStepS (a0 : List SStep) : Option (List SStep) := callL tt FT SP 21 (show InVals (FT 21) from ((a0, ()), (())))
noncomputable def F_laws_toStep (a0 : SStep) : Option SStep := callL tt FT SP 22 (show InVals (FT 22) from ((a0, ()), (())))
noncomputable def F_laws_toNodeSS (a0 : List (List SNode)) : Option (List (List SNode)) := callL tt FT SP 23 (show InVals (FT 23) from ((a0, ()), (())))
noncomputable def F_spec_PlansMean (a0 : List STable) (a1 : List (List (List Int))) (a2 : List SOp) (a3 : List (List SNode)) : Option Bool := callL tt FT SP 24 (show InVals (FT 24) from ((a0, a1, a2, a3, ()), (())))
noncomputable def F_spec_EvalPlan (a0 : List STable) (a1 : List (List (List Int))) (a2 : List SNode) : Option ((List (List Int)) × Int) := callL tt FT SP 25 (show InVals (FT 25) from ((a0, a1, a2, ()), (())))
noncomputable def F_spec_StoreOk (a0 : List STable) (a1 : List (List (List Int))) : Option Bool := callL tt FT SP 26 (show InVals (FT 26) from ((a0, a1, ()), (())))
noncomputable def F_spec_SchemaOk (a0 : List STable) : Option Bool := callL tt FT SP 27 (show InVals (FT 27) from ((a0, ()), (())))
noncomputable def F_spec_WordOk (a0 : ByteArray) : Option Bool := callL tt FT SP 28 (show InVals (FT 28) from ((a0, ()), (())))
noncomputable def F_spec_l01In (a0 : Int) (a1 : Int) (a2 : Int) : Option Bool := callL tt FT SP 29 (show InVals (FT 29) from ((a0, a1, a2, ()), (())))
noncomputable def F_spec_l01Less (a0 : ByteArray) (a1 : ByteArray) : Option Bool := callL tt FT SP 30 (show InVals (FT 30) from ((a0, a1, ()), (())))
noncomputable def F_spec_l04Value (a0 : Int) : Option Bool := callL tt FT SP 31 (show InVals (FT 31) from ((a0, ()), (())))
noncomputable def F_spec_l01Number (a0 : Int) : Option Bool := callL tt FT SP 32 (show InVals (FT 32) from ((a0, ()), (())))
noncomputable def F_spec_TypedOk (a0 : List STable) (a1 : List SNode) : Option Bool := callL tt FT SP 33 (show InVals (FT 33) from ((a0, a1, ()), (())))
noncomputable def F_spec_WidthOf (a0 : List STable) (a1 : List SNode) : Option Int := callL tt FT SP 34 (show InVals (FT 34) from ((a0, a1, ()), (())))
noncomputable def F_spec_PlanOk (a0 : List SNode) : Option Bool := callL tt FT SP 35 (show InVals (FT 35) from ((a0, ()), (())))
noncomputable def F_spec_NodeOk (a0 : SNode) : Option Bool := callL tt FT SP 36 (show InVals (FT 36) from ((a0, ()), (())))
noncomputable def F_spec_l02Col (a0 : Int) : Option Bool := callL tt FT SP 37 (show InVals (FT 37) from ((a0, ()), (())))
noncomputable def F_spec_l02End (a0 : List SNode) (a1 : Int) (a2 : Int) : Option (Int × Int) := callL tt FT SP 38 (show InVals (FT 38) from ((a0, a1, a2, ()), (())))
noncomputable def F_spec_ArityOf (a0 : Int) : Option Int := callL tt FT SP 39 (show InVals (FT 39) from ((a0, ()), (())))
noncomputable def F_spec_l03Width (a0 : List STable) (a1 : List SNode) (a2 : Int) : Option Int := callL tt FT SP 40 (show InVals (FT 40) from ((a0, a1, a2, ()), (())))
noncomputable def F_spec_l02Kids (a0 : List SNode) (a1 : Int) : Option (List Int) := callL tt FT SP 41 (show InVals (FT 41) from ((a0, a1, ()), (())))
noncomputable def F_spec_l03Find (a0 : List STable) (a1 : ByteArray) : Option Int := callL tt FT SP 42 (show InVals (FT 42) from ((a0, a1, ()), (())))
noncomputable def F_spec_l04Eval (a0 : List STable) (a1 : List (List (List Int))) (a2 : List SNode) (a3 : Int) : Option ((List (List Int)) × Bool) := callL tt FT SP 43 (show InVals (FT 43) from ((a0, a1, a2, a3, ()), (())))
noncomputable def F_spec_l04Filter (a0 : SNode) (a1 : List (List Int)) : Option (List (List Int)) := callL tt FT SP 44 (show InVals (FT 44) from ((a0, a1, ()), (())))
noncomputable def F_spec_l04Holds (a0 : SNode) (a1 : Int) : Option Bool := callL tt FT SP 45 (show InVals (FT 45) from ((a0, a1, ()), (())))
noncomputable def F_spec_l04Keep (a0 : SNode) (a1 : List (List Int)) : Option (List (List Int)) := callL tt FT SP 46 (show InVals (FT 46) from ((a0, a1, ()), (())))
noncomputable def F_spec_l04Join (a0 : SNode) (a1 : List (List Int)) (a2 : List (List Int)) : Option (List (List Int)) := callL tt FT SP 47 (show InVals (FT 47) from ((a0, a1, a2, ()), (())))
noncomputable def F_spec_l01Copy (a0 : List Int) : Option (List Int) := callL tt FT SP 48 (show InVals (FT 48) from ((a0, ()), (())))
noncomputable def F_spec_l04Sort (a0 : SNode) (a1 : List (List Int)) : Option (List (List Int)) := callL tt FT SP 49 (show InVals (FT 49) from ((a0, a1, ()), (())))
noncomputable def F_spec_l04Once (a0 : List (List Int)) : Option (List (List Int)) := callL tt FT SP 50 (show InVals (FT 50) from ((a0, ()), (())))
noncomputable def F_spec_CountSame (a0 : List (List Int)) (a1 : List Int) : Option Int := callL tt FT SP 51 (show InVals (FT 51) from ((a0, a1, ()), (())))
noncomputable def F_spec_l02SameInts (a0 : List Int) (a1 : List Int) : Option Bool := callL tt FT SP 52 (show InVals (FT 52) from ((a0, a1, ()), (())))
noncomputable def F_spec_l04Copy (a0 : List (List Int)) : Option (List (List Int)) := callL tt FT SP 53 (show InVals (FT 53) from ((a0, ()), (())))
noncomputable def F_spec_MeansSame (a0 : List STable) (a1 : List (List (List Int))) (a2 : List SNode) (a3 : List SNode) : Option Bool := callL tt FT SP 54 (show InVals (FT 54) from ((a0, a1, a2, a3, ()), (())))
noncomputable def F_spec_SameRows (a0 : List (List Int)) (a1 : List (List Int)) : Option Bool := callL tt FT SP 55 (show InVals (FT 55) from ((a0, a1, ()), (())))
noncomputable def F_impl_PlansMean (a0 : List STable) (a1 : List (List (List Int))) (a2 : List SOp) (a3 : List (List SNode)) : Option Bool := callL tt FT SP 56 (show InVals (FT 56) from ((a0, a1, a2, a3, ()), (())))
noncomputable def F_impl_EvalPlan (a0 : List STable) (a1 : List (List (List Int))) (a2 : List SNode) : Option ((List (List Int)) × Int) := callL tt FT SP 57 (show InVals (FT 57) from ((a0, a1, a2, ()), (())))
noncomputable def F_impl_StoreOk (a0 : List STable) (a1 : List (List (List Int))) : Option Bool := callL tt FT SP 58 (show InVals (FT 58) from ((a0, a1, ()), (())))
noncomputable def F_impl_SchemaOk (a0 : List STable) : Option Bool := callL tt FT SP 59 (show InVals (FT 59) from ((a0, ()), (())))
noncomputable def F_impl_WordOk (a0 : ByteArray) : Option Bool := callL tt FT SP 60 (show InVals (FT 60) from ((a0, ()), (())))
noncomputable def F_impl_in (a0 : Int) (a1 : Int) (a2 : Int) : Option Bool := callL tt FT SP 61 (show InVals (FT 61) from ((a0, a1, a2, ()), (())))
noncomputable def F_slices_ContainsFunc_Lint_impl_StoreOk_1 (a0 : List Int) : Option Bool := callL tt FT SP 62 (show InVals (FT 62) from ((a0, (()), ()), (())))
noncomputable def F_slices_IndexFunc_Lint_impl_StoreOk_1 (a0 : List Int) : Option Int := callL tt FT SP 63 (show InVals (FT 63) from ((a0, (()), ()), (())))
noncomputable def F_impl_StoreOk_1 (a0 : Int) : Option Bool := callL tt FT SP 64 (show InVals (FT 64) from ((a0, ()), (())))
noncomputable def F_impl_isValue (a0 : Int) : Option Bool := callL tt FT SP 65 (show InVals (FT 65) from ((a0, ()), (())))
noncomputable def F_impl_isNum (a0 : Int) : Option Bool := callL tt FT SP 66 (show InVals (FT 66) from ((a0, ()), (())))
noncomputable def F_impl_TypedOk (a0 : List STable) (a1 : List SNode) : Option Bool := callL tt FT SP 67 (show InVals (FT 67) from ((a0, a1, ()), (())))
noncomputable def F_impl_WidthOf (a0 : List STable) (a1 : List SNode) : Option Int := callL tt FT SP 68 (show InVals (FT 68) from ((a0, a1, ()), (())))
noncomputable def F_impl_PlanOk (a0 : List SNode) : Option Bool := callL tt FT SP 69 (show InVals (FT 69) from ((a0, ()), (())))
noncomputable def F_slices_ContainsFunc_LimplNode_impl_PlanOk_1 (a0 : List SNode) : Option Bool := callL tt FT SP 70 (show InVals (FT 70) from ((a0, (()), ()), (())))
noncomputable def F_slices_IndexFunc_LimplNode_impl_PlanOk_1 (a0 : List SNode) : Option Int := callL tt FT SP 71 (show InVals (FT 71) from ((a0, (()), ()), (())))
noncomputable def F_impl_PlanOk_1 (a0 : SNode) : Option Bool := callL tt FT SP 72 (show InVals (FT 72) from ((a0, ()), (())))
noncomputable def F_impl_NodeOk (a0 : SNode) : Option Bool := callL tt FT SP 73 (show InVals (FT 73) from ((a0, ()), (())))
noncomputable def F_impl_isCol (a0 : Int) : Option Bool := callL tt FT SP 74 (show InVals (FT 74) from ((a0, ()), (())))
noncomputable def F_impl_isSlot (a0 : Int) : Option Bool := callL tt FT SP 75 (show InVals (FT 75) from ((a0, ()), (())))
noncomputable def F_slices_ContainsFunc_Lint_impl_NodeOk_1 (a0 : List Int) : Option Bool := callL tt FT SP 76 (show InVals (FT 76) from ((a0, (()), ()), (())))
noncomputable def F_slices_IndexFunc_Lint_impl_NodeOk_1 (a0 : List Int) : Option Int := callL tt FT SP 77 (show InVals (FT 77) from ((a0, (()), ()), (())))
noncomputable def F_impl_NodeOk_1 (a0 : Int) : Option Bool := callL tt FT SP 78 (show InVals (FT 78) from ((a0, ()), (())))
noncomputable def F_impl_sameNode (a0 : SNode) (a1 : SNode) : Option Bool := callL tt FT SP 79 (show InVals (FT 79) from ((a0, a1, ()), (())))
noncomputable def F_slices_Equal_Lint (a0 : List Int) (a1 : List Int) : Option Bool := callL tt FT SP 80 (show InVals (FT 80) from ((a0, a1, ()), (())))
noncomputable def F_impl_end (a0 : List SNode) (a1 : Int) (a2 : Int) : Option Int := callL tt FT SP 81 (show InVals (FT 81) from ((a0, a1, a2, ()), (())))
noncomputable def F_impl_ArityOf (a0 : Int) : Option Int := callL tt FT SP 82 (show InVals (FT 82) from ((a0, ()), (())))
noncomputable def F_impl_width (a0 : List STable) (a1 : List SNode) (a2 : Int) : Option Int := callL tt FT SP 83 (show InVals (FT 83) from ((a0, a1, a2, ()), (())))
noncomputable def F_impl_children (a0 : List SNode) (a1 : Int) : Option (List Int) := callL tt FT SP 84 (show InVals (FT 84) from ((a0, a1, ()), (())))
noncomputable def F_impl_tableAt (a0 : List STable) (a1 : ByteArray) : Option Int := callL tt FT SP 85 (show InVals (FT 85) from ((a0, a1, ()), (())))
noncomputable def F_slices_IndexFunc_LimplTable_impl_tableAt_1 (a0 : List STable) (a1x0x0 : ByteArray) : Option (Int × ByteArray) := callL tt FT SP 86 (show InVals (FT 86) from ((a0, ((a1x0x0, ()), ()), ()), (())))
noncomputable def F_impl_tableAt_1 (a0 : STable) (c0x0 : ByteArray) : Option (Bool × ByteArray) := callL tt FT SP 87 (show InVals (FT 87) from ((a0, ()), ((c0x0, ()), ())))
noncomputable def F_slices_Max_Lint (a0 : List Int) : Option Int := callL tt FT SP 88 (show InVals (FT 88) from ((a0, ()), (())))
noncomputable def F_impl_hasSlot (a0 : List SNode) : Option Bool := callL tt FT SP 89 (show InVals (FT 89) from ((a0, ()), (())))
noncomputable def F_slices_ContainsFunc_LimplNode_impl_hasSlot_1 (a0 : List SNode) : Option Bool := callL tt FT SP 90 (show InVals (FT 90) from ((a0, (()), ()), (())))
noncomputable def F_slices_IndexFunc_LimplNode_impl_hasSlot_1 (a0 : List SNode) : Option Int := callL tt FT SP 91 (show InVals (FT 91) from ((a0, (()), ()), (())))
noncomputable def F_impl_hasSlot_1 (a0 : SNode) : Option Bool := callL tt FT SP 92 (show InVals (FT 92) from ((a0, ()), (())))
noncomputable def F_impl_eval (a0 : List STable) (a1 : List (List (List Int))) (a2 : List SNode) (a3 : Int) : Option ((List (List Int)) × Bool) := callL tt FT SP 93 (show InVals (FT 93) from ((a0, a1, a2, a3, ()), (())))
noncomputable def F_impl_Node_keeps (a0 : SNode) (a1 : Int) : Option Bool := callL tt FT SP 94 (show InVals (FT 94) from ((a0, a1, ()), (())))
noncomputable def F_slices_Concat_Lint (a0 : List (List Int)) : Option (List Int) := callL tt FT SP 95 (show InVals (FT 95) from ((a0, ()), (())))
noncomputable def F_slices_Grow_Lint (a1 : Int) : Option (List Int) := callL tt FT SP 96 (show InVals (FT 96) from (([], a1, ()), (())))
noncomputable def F_slices_Concat_LLint (a0 : List (List (List Int))) : Option (List (List Int)) := callL tt FT SP 97 (show InVals (FT 97) from ((a0, ()), (())))
noncomputable def F_slices_Grow_LLint (a1 : Int) : Option (List (List Int)) := callL tt FT SP 98 (show InVals (FT 98) from (([], a1, ()), (())))
noncomputable def F_slices_Clone_LLint (a0 : List (List Int)) : Option (List (List Int)) := callL tt FT SP 99 (show InVals (FT 99) from ((a0, ()), (())))
noncomputable def F_slices_SortStableFunc_LLint_impl_eval_1 (a0 : List (List Int)) (a1x0x0 : Int) (a1x0x1 : ByteArray) (a1x0x2 : Int) (a1x0x3 : Int) (a1x0x4 : Int) (a1x0x5 : Bool) (a1x0x6 : List Int) : Option ((List (List Int)) × Int × ByteArray × Int × Int × Int × Bool × (List Int)) := callL tt FT SP 100 (show InVals (FT 100) from ((a0, ((a1x0x0, a1x0x1, a1x0x2, a1x0x3, a1x0x4, a1x0x5, a1x0x6, ()), ()), ()), (())))
noncomputable def F_slices_stableCmpFunc_Lint_impl_eval_1 (a0 : List (List Int)) (a1 : Int) (a2x0x0 : Int) (a2x0x1 : ByteArray) (a2x0x2 : Int) (a2x0x3 : Int) (a2x0x4 : Int) (a2x0x5 : Bool) (a2x0x6 : List Int) : Option ((List (List Int)) × Int × ByteArray × Int × Int × Int × Bool × (List Int)) := callL tt FT SP 101 (show InVals (FT 101) from ((a0, a1, ((a2x0x0, a2x0x1, a2x0x2, a2x0x3, a2x0x4, a2x0x5, a2x0x6, ()), ()), ()), (())))
noncomputable def F_slices_insertionSortCmpFunc_Lint_impl_eval_1 (a0 : List (List Int)) (a1 : Int) (a2 : Int) (a3x0x0 : Int) (a3x0x1 : ByteArray) (a3x0x2 : Int) (a3x0x3 : Int) (a3x0x4 : Int) (a3x0x5 : Bool) (a3x0x6 : List Int) : Option ((List (List Int)) × Int × ByteArray × Int × Int × Int × Bool × (List Int)) := callL tt FT SP 102 (show InVals (FT 102) from ((a0, a1, a2, ((a3x0x0, a3x0x1, a3x0x2, a3x0x3, a3x0x4, a3x0x5, a3x0x6, ()), ()), ()), (())))
noncomputable def F_impl_eval_1 (a0 : List Int) (a1 : List Int) (c0x0 : Int) (c0x1 : ByteArray) (c0x2 : Int) (c0x3 : Int) (c0x4 : Int) (c0x5 : Bool) (c0x6 : List Int) : Option (Int × Int × ByteArray × Int × Int × Int × Bool × (List Int)) := callL tt FT SP 103 (show InVals (FT 103) from ((a0, a1, ()), ((c0x0, c0x1, c0x2, c0x3, c0x4, c0x5, c0x6, ()), ())))
noncomputable def F_cmp_Compare_int (a0 : Int) (a1 : Int) : Option Int := callL tt FT SP 104 (show InVals (FT 104) from ((a0, a1, ()), (())))
noncomputable def F_cmp_isNaN_int (a0 : Int) : Option Bool := callL tt FT SP 105 (show InVals (FT 105) from ((a0, ()), (())))
noncomputable def F_slices_symMergeCmpFunc_Lint_impl_eval_1 (a0 : List (List Int)) (a1 : Int) (a2 : Int) (a3 : Int) (a4x0x0 : Int) (a4x0x1 : ByteArray) (a4x0x2 : Int) (a4x0x3 : Int) (a4x0x4 : Int) (a4x0x5 : Bool) (a4x0x6 : List Int) : Option ((List (List Int)) × Int × ByteArray × Int × Int × Int × Bool × (List Int)) := callL tt FT SP 106 (show InVals (FT 106) from ((a0, a1, a2, a3, ((a4x0x0, a4x0x1, a4x0x2, a4x0x3, a4x0x4, a4x0x5, a4x0x6, ()), ()), ()), (())))
noncomputable def F_slices_rotateCmpFunc_Lint_impl_eval_1 (a0 : List (List Int)) (a1 : Int) (a2 : Int) (a3 : Int) (a4x0x0 : Int) (a4x0x1 : ByteArray) (a4x0x2 : Int) (a4x0x3 : Int) (a4x0x4 : Int) (a4x0x5 : Bool) (a4x0x6 : List Int) : Option ((List (List Int)) × Int × ByteArray × Int × Int × Int × Bool × (List Int)) := callL tt FT SP 107 (show InVals (FT 107) from ((a0, a1, a2, a3, ((a4x0x0, a4x0x1, a4x0x2, a4x0x3, a4x0x4, a4x0x5, a4x0x6, ()), ()), ()), (())))
noncomputable def F_slices_swapRangeCmpFunc_Lint_impl_eval_1 (a0 : List (List Int)) (a1 : Int) (a2 : Int) (a3 : Int) (a4x0x0 : Int) (a4x0x1 : ByteArray) (a4x0x2 : Int) (a4x0x3 : Int) (a4x0x4 : Int) (a4x0x5 : Bool) (a4x0x6 : List Int) : Option ((List (List Int)) × Int × ByteArray × Int × Int × Int × Bool × (List Int)) := callL tt FT SP 108 (show InVals (FT 108) from ((a0, a1, a2, a3, ((a4x0x0, a4x0x1, a4x0x2, a4x0x3, a4x0x4, a4x0x5, a4x0x6, ()), ()), ()), (())))
noncomputable def F_impl_CountSame (a0 : List (List Int)) (a1 : List Int) : Option Int := callL tt FT SP 109 (show InVals (FT 109) from ((a0, a1, ()), (())))
noncomputable def F_impl_ownRows (a0 : List (List Int)) : Option (List (List Int)) := callL tt FT SP 110 (show InVals (FT 110) from ((a0, ()), (())))
noncomputable def F_slices_Clone_Lint (a0 : List Int) : Option (List Int) := callL tt FT SP 111 (show InVals (FT 111) from ((a0, ()), (())))
noncomputable def F_impl_SameRows (a0 : List (List Int)) (a1 : List (List Int)) : Option Bool := callL tt FT SP 112 (show InVals (FT 112) from ((a0, a1, ()), (())))
noncomputable def F_slices_EqualFunc_LLint_slices_Equal_Lint (a0 : List (List Int)) (a1 : List (List Int)) : Option Bool := callL tt FT SP 113 (show InVals (FT 113) from ((a0, a1, (()), ()), (())))
noncomputable def F_laws_eqTableS (a0 : List STable) (a1 : List STable) : Option Bool := callL tt FT SP 114 (show InVals (FT 114) from ((a0, a1, ()), (())))
noncomputable def F_laws_eqTable (a0 : STable) (a1 : STable) : Option Bool := callL tt FT SP 115 (show InVals (FT 115) from ((a0, a1, ()), (())))
noncomputable def F_laws_eqIntSSS (a0 : List (List (List Int))) (a1 : List (List (List Int))) : Option Bool := callL tt FT SP 116 (show InVals (FT 116) from ((a0, a1, ()), (())))
noncomputable def F_laws_eqIntSS (a0 : List (List Int)) (a1 : List (List Int)) : Option Bool := callL tt FT SP 117 (show InVals (FT 117) from ((a0, a1, ()), (())))
noncomputable def F_laws_eqIntS (a0 : List Int) (a1 : List Int) : Option Bool := callL tt FT SP 118 (show InVals (FT 118) from ((a0, a1, ()), (())))
noncomputable def F_laws_eqOpS (a0 : List SOp) (a1 : List SOp) : Option Bool := callL tt FT SP 119 (show InVals (FT 119) from ((a0, a1, ()), (())))
noncomputable def F_laws_eqOp (a0 : SOp) (a1 : SOp) : Option Bool := callL tt FT SP 120 (show InVals (FT 120) from ((a0, a1, ()), (())))
noncomputable def F_laws_eqNodeS (a0 : List SNode) (a1 : List SNode) : Option Bool := callL tt FT SP 121 (show InVals (FT 121) from ((a0, a1, ()), (())))
noncomputable def F_laws_eqNode (a0 : SNode) (a1 : SNode) : Option Bool := callL tt FT SP 122 (show InVals (FT 122) from ((a0, a1, ()), (())))
noncomputable def F_laws_eqStepS (a0 : List SStep) (a1 : List SStep) : Option Bool := callL tt FT SP 123 (show InVals (FT 123) from ((a0, a1, ()), (())))
noncomputable def F_laws_eqStep (a0 : SStep) (a1 : SStep) : Option Bool := callL tt FT SP 124 (show InVals (FT 124) from ((a0, a1, ()), (())))
noncomputable def F_laws_eqNodeSS (a0 : List (List SNode)) (a1 : List (List SNode)) : Option Bool := callL tt FT SP 125 (show InVals (FT 125) from ((a0, a1, ()), (())))
theorem U_laws_FnExactPlansMean (a0 : List STable) (a1 : List (List (List Int))) (a2 : List SOp) (a3 : List (List SNode)) : Le ((F_laws_szTableS a0 1048576).bind (fun y1 => (bif (decide (y1 < 0)) then
  some true
  else (F_laws_szIntSSS a1 y1).bind (fun y2 => (bif (decide (y2 < 0)) then
  some true
  else (F_laws_szOpS a2 y2).bind (fun y3 => (bif (decide (y3 < 0)) then
  some true
  else (F_laws_szNodeSS a3 y3).bind (fun y4 => (bif (decide (y4 < 0)) then
  some true
  else (F_laws_toTableS a0).bind (fun y5 => (F_laws_toIntSSS a1).bind (fun y6 => (F_laws_toOpS a2).bind (fun y7 => (F_laws_toNodeSS a3).bind (fun y8 => (F_spec_PlansMean y5 y6 y7 y8).bind (fun y9 => (F_laws_toTableS a0).bind (fun y10 => (F_laws_toIntSSS a1).bind (fun y11 => (F_laws_toOpS a2).bind (fun y12 => (F_laws_toNodeSS a3).bind (fun y13 => (F_impl_PlansMean y10 y11 y12 y13).bind (fun y14 => (bif (y14 != y9) then
  some false
  else (F_laws_toTableS a0).bind (fun y15 => (F_laws_eqTableS y10 y15).bind (fun y16 => (bif (!y16) then
  some false
  else (F_laws_toIntSSS a1).bind (fun y17 => (F_laws_eqIntSSS y11 y17).bind (fun y18 => (bif (!y18) then
  some false
  else (F_laws_toOpS a2).bind (fun y19 => (F_laws_eqOpS y12 y19).bind (fun y20 => (bif (!y20) then
  some false
  else (F_laws_toNodeSS a3).bind (fun y21 => (F_laws_eqNodeSS y13 y21).bind (fun y22 => (bif (!y22) then
  some false
  else some true)))))))))))))))))))))))))))))))) (F_laws_FnExactPlansMean a0 a1 a2 a3) := callL_le (tt := tt) (FT := FT) (SP := SP) (j := 0) rfl (by kernel_rfl)
noncomputable def L_laws_szTableSx0 (a0 : List STable) (f0 : (Int × Int × Int) → Option (Ex Int (Int × Int))) (v1 : Int) (v2 : Int) (v3 : Int) : Option (Ex Int (Int × Int)) :=
  (bif (decide (v3 < (a0.length : Int))) then
  (ix a0 v3).bind (fun z4 => (F_laws_szTable z4 v1).bind (fun y5 => (bif (decide (y5 < 0)) then
  some (.ret (-1))
  else f0 (y5, v2, (IntKind.i64.wrap (v3 + 1))))))
  else some (.go (v1, v2)))
@[simp] noncomputable def J_laws_szTableSx0 (v6 : Int) (v7 : Int) : Option Int :=
  some v6
theorem U_laws_szTableS (a0 : List STable) (a1 : Int) : Le ((bif (decide ((IntKind.i64.wrap (a1 - (a0.length : Int))) < 0)) then
  some (-1)
  else joinK (loopF (fun f s => L_laws_szTableSx0 a0 f s.1 s.2.1 s.2.2) ((IntKind.i64.wrap (a1 - (a0.length : Int))), 0, 0))
  (fun s => J_laws_szTableSx0 s.1 s.2))) (F_laws_szTableS a0 a1) := callL_le (tt := tt) (FT := FT) (SP := SP) (j := 1) rfl (by kernel_rfl)
theorem U_laws_szTable (a0 : STable) (a1 : Int) : Le ((bif (decide ((IntKind.i64.wrap (a1 - (a0.1.size : Int))) < 0)) then
  some (-1)
  else some (IntKind.i64.wrap (a1 - (a0.1.size : Int))))) (F_laws_szTable a0 a1) := callL_le (tt := tt) (FT := FT) (SP := SP) (j := 2) rfl (by kernel_rfl)
noncomputable def L_laws_szIntSSSx0 (a0 : List (List (List Int))) (f0 : (Int × Int × Int) → Option (Ex Int (Int × Int))) (v1 : Int) (v2 : Int) (v3 : Int) : Option (Ex Int (Int × Int)) :=
  (bif (decide (v3 < (a0.length : Int))) then
  (ix a0 v3).bind (fun z4 => (F_laws_szIntSS z4 v1).bind (fun y5 => (bif (decide (y5 < 0)) then
  some (.ret (-1))
  else f0 (y5, v2, (IntKind.i64.wrap (v3 + 1))))))
  else some (.go (v1, v2)))
@[simp] noncomputable def J_laws_szIntSSSx0 (v6 : Int) (v7 : Int) : Option Int :=
  some v6
theorem U_laws_szIntSSS (a0 : List (List (List Int))) (a1 : Int) : Le ((bif (decide ((IntKind.i64.wrap (a1 - (a0.length : Int))) < 0)) then
  some (-1)
  else joinK (loopF (fun f s => L_laws_szIntSSSx0 a0 f s.1 s.2.1 s.2.2) ((IntKind.i64.wrap (a1 - (a0.length : Int))), 0, 0))
  (fun s => J_laws_szIntSSSx0 s.1 s.2))) (F_laws_szIntSSS a0 a1) := callL_le (tt := tt) (FT := FT) (SP := SP) (j := 3) rfl (by kernel_rfl)
noncomputable def L_laws_szIntSSx0 (a0 : List (List Int)) (f0 : (Int × Int × Int) → Option (Ex Int (Int × Int))) (v1 : Int) (v2 : Int) (v3 : Int) : Option (Ex Int (Int × Int)) :=
  (bif (decide (v3 < (a0.length : Int))) then
  (ix a0 v3).bind (fun z4 => (F_laws_szIntS z4 v1).bind (fun y5 => (bif (decide (y5 < 0)) then
  some (.ret (-1))
  else f0 (y5, v2, (IntKind.i64.wrap (v3 + 1))))))
  else some (.go (v1, v2)))
@[simp] noncomputable def J_laws_szIntSSx0 (v6 : Int) (v7 : Int) : Option Int :=
  some v6
theorem U_laws_szIntSS (a0 : List (List Int)) (a1 : Int) : Le ((bif (decide ((IntKind.i64.wrap (a1 - (a0.length : Int))) < 0)) then
  some (-1)
  else joinK (loopF (fun f s => L_laws_szIntSSx0 a0 f s.1 s.2.1 s.2.2) ((IntKind.i64.wrap (a1 - (a0.length : Int))), 0, 0))
  (fun s => J_laws_szIntSSx0 s.1 s.2))) (F_laws_szIntSS a0 a1) := callL_le (tt := tt) (FT := FT) (SP := SP) (j := 4) rfl (by kernel_rfl)
theorem U_laws_szIntS (a0 : List Int) (a1 : Int) : Le ((bif (decide ((IntKind.i64.wrap (a1 - (a0.length : Int))) < 0)) then
  some (-1)
  else some (IntKind.i64.wrap (a1 - (a0.length : Int))))) (F_laws_szIntS a0 a1) := callL_le (tt := tt) (FT := FT) (SP := SP) (j := 5) rfl (by kernel_rfl)
noncomputable def L_laws_szOpSx0 (a0 : List SOp) (f0 : (Int × Int × Int) → Option (Ex Int (Int × Int))) (v1 : Int) (v2 : Int) (v3 : Int) : Option (Ex Int (Int × Int)) :=
  (bif (decide (v3 < (a0.length : Int))) then
  (ix a0 v3).bind (fun z4 => (F_laws_szOp z4 v1).bind (fun y5 => (bif (decide (y5 < 0)) then
  some (.ret (-1))
  else f0 (y5, v2, (IntKind.i64.wrap (v3 + 1))))))
  else some (.go (v1, v2)))
@[simp] noncomputable def J_laws_szOpSx0 (v6 : Int) (v7 : Int) : Option Int :=
  some v6
theorem U_laws_szOpS (a0 : List SOp) (a1 : Int) : Le ((bif (decide ((IntKind.i64.wrap (a1 - (a0.length : Int))) < 0)) then
  some (-1)
  else joinK (loopF (fun f s => L_laws_szOpSx0 a0 f s.1 s.2.1 s.2.2) ((IntKind.i64.wrap (a1 - (a0.length : Int))), 0, 0))
  (fun s => J_laws_szOpSx0 s.1 s.2))) (F_laws_szOpS a0 a1) := callL_le (tt := tt) (FT := FT) (SP := SP) (j := 6) rfl (by kernel_rfl)
theorem U_laws_szOp (a0 : SOp) (a1 : Int) : Le ((F_laws_szNodeS a0.2.1 a1).bind (fun y1 => (bif (decide (y1 < 0)) then
  some (-1)
  else (F_laws_szNodeS a0.2.2.1 y1).bind (fun y2 => (bif (decide (y2 < 0)) then
  some (-1)
  else (F_laws_szStepS a0.2.2.2.1 y2).bind (fun y3 => (bif (decide (y3 < 0)) then
  some (-1)
  else some y3))))))) (F_laws_szOp a0 a1) := callL_le (tt := tt) (FT := FT) (SP := SP) (j := 7) rfl (by kernel_rfl)
noncomputable def L_laws_szNodeSx0 (a0 : List SNode) (f0 : (Int × Int × Int) → Option (Ex Int (Int × Int))) (v1 : Int) (v2 : Int) (v3 : Int) : Option (Ex Int (Int × Int)) :=
  (bif (decide (v3 < (a0.length : Int))) then
  (ix a0 v3).bind (fun z4 => (F_laws_szNode z4 v1).bind (fun y5 => (bif (decide (y5 < 0)) then
  some (.ret (-1))
  else f0 (y5, v2, (IntKind.i64.wrap (v3 + 1))))))
  else some (.go (v1, v2)))
@[simp] noncomputable def J_laws_szNodeSx0 (v6 : Int) (v7 : Int) : Option Int :=
  some v6
theorem U_laws_szNodeS (a0 : List SNode) (a1 : Int) : Le ((bif (decide ((IntKind.i64.wrap (a1 - (a0.length : Int))) < 0)) then
  some (-1)
  else joinK (loopF (fun f s => L_laws_szNodeSx0 a0 f s.1 s.2.1 s.2.2) ((IntKind.i64.wrap (a1 - (a0.length : Int))), 0, 0))
  (fun s => J_laws_szNodeSx0 s.1 s.2))) (F_laws_szNodeS a0 a1) := callL_le (tt := tt) (FT := FT) (SP := SP) (j := 8) rfl (by kernel_rfl)
theorem U_laws_szNode (a0 : SNode) (a1 : Int) : Le ((bif (decide ((IntKind.i64.wrap (a1 - (a0.2.1.size : Int))) < 0)) then
  some (-1)
  else (F_laws_szIntS a0.2.2.2.2.2.2.1 (IntKind.i64.wrap (a1 - (a0.2.1.size : Int)))).bind (fun y1 => (bif (decide (y1 < 0)) then
  some (-1)
  else some y1)))) (F_laws_szNode a0 a1) := callL_le (tt := tt) (FT := FT) (SP := SP) (j := 9) rfl (by kernel_rfl)
theorem U_laws_szStepS (a0 : List SStep) (a1 : Int) : Le ((bif (decide ((IntKind.i64.wrap (a1 - (a0.length : Int))) < 0)) then
  some (-1)
  else some (IntKind.i64.wrap (a1 - (a0.length : Int))))) (F_laws_szStepS a0 a1) := callL_le (tt := tt) (FT := FT) (SP := SP) (j := 10) rfl (by kernel_rfl)
noncomputable def L_laws_szNodeSSx0 (a0 : List (List SNode)) (f0 : (Int × Int × Int) → Option (Ex Int (Int × Int))) (v1 : Int) (v2 : Int) (v3 : Int) : Option (Ex Int (Int × Int)) :=
  (bif (decide (v3 < (a0.length : Int))) then
  (ix a0 v3).bind (fun z4 => (F_laws_szNodeS z4 v1).bind (fun y5 => (bif (decide (y5 < 0)) then
  some (.ret (-1))
  else f0 (y5, v2, (IntKind.i64.wrap (v3 + 1))))))
  else some (.go (v1, v2)))
@[simp] noncomputable def J_laws_szNodeSSx0 (v6 : Int) (v7 : Int) : Option Int :=
  some v6
theorem U_laws_szNodeSS (a0 : List (List SNode)) (a1 : Int) : Le ((bif (decide ((IntKind.i64.wrap (a1 - (a0.length : Int))) < 0)) then
  some (-1)
  else joinK (loopF (fun f s => L_laws_szNodeSSx0 a0 f s.1 s.2.1 s.2.2) ((IntKind.i64.wrap (a1 - (a0.length : Int))), 0, 0))
  (fun s => J_laws_szNodeSSx0 s.1 s.2))) (F_laws_szNodeSS a0 a1) := callL_le (tt := tt) (FT := FT) (SP := SP) (j := 11) rfl (by kernel_rfl)
noncomputable def L_laws_toTableSx0 (a0 : List STable) (f0 : ((List STable) × Int) → Option (Ex (List STable) (List STable))) (v2 : List STable) (v3 : Int) : Option (Ex (List STable) (List STable)) :=
  (bif (decide (v3 < (a0.length : Int))) then
  (ix a0 v3).bind (fun z4 => (F_laws_toTable z4).bind (fun y5 => (ix v2 v3).bind (fun z6 => (stx v2 v3 y5).bind (fun z7 => f0 (z7, (IntKind.i64.wrap (v3 + 1)))))))
  else some (.go v2))
@[simp] noncomputable def J_laws_toTableSx0 (v8 : List STable) : Option (List STable) :=
  some v8
theorem U_laws_toTableS (a0 : List STable) : Le ((mkx (a0.length : Int) ((ByteArray.empty, (0, ())) : STable)).bind (fun z1 => joinK (loopF (fun f s => L_laws_toTableSx0 a0 f s.1 s.2) (z1, 0))
  (fun s => J_laws_toTableSx0 s))) (F_laws_toTableS a0) := callL_le (tt := tt) (FT := FT) (SP := SP) (j := 12) rfl (by kernel_rfl)
theorem U_laws_toTable (a0 : STable) : Le (some (a0.1, (a0.2.1, ()))) (F_laws_toTable a0) := callL_le (tt := tt) (FT := FT) (SP := SP) (j := 13) rfl (by kernel_rfl)
noncomputable def L_laws_toIntSSSx0 (a0 : List (List (List Int))) (f0 : ((List (List (List Int))) × Int) → Option (Ex (List (List (List Int))) (List (List (List Int))))) (v2 : List (List (List Int))) (v3 : Int) : Option (Ex (List (List (List Int))) (List (List (List Int)))) :=
  (bif (decide (v3 < (a0.length : Int))) then
  (ix a0 v3).bind (fun z4 => (F_laws_toIntSS z4).bind (fun y5 => (ix v2 v3).bind (fun z6 => (stx v2 v3 y5).bind (fun z7 => f0 (z7, (IntKind.i64.wrap (v3 + 1)))))))
  else some (.go v2))
@[simp] noncomputable def J_laws_toIntSSSx0 (v8 : List (List (List Int))) : Option (List (List (List Int))) :=
  some v8
theorem U_laws_toIntSSS (a0 : List (List (List Int))) : Le ((mkx (a0.length : Int) ([] : List (List Int))).bind (fun z1 => joinK (loopF (fun f s => L_laws_toIntSSSx0 a0 f s.1 s.2) (z1, 0))
  (fun s => J_laws_toIntSSSx0 s))) (F_laws_toIntSSS a0) := callL_le (tt := tt) (FT := FT) (SP := SP) (j := 14) rfl (by kernel_rfl)
noncomputable def L_laws_toIntSSx0 (a0 : List (List Int)) (f0 : ((List (List Int)) × Int) → Option (Ex (List (List Int)) (List (List Int)))) (v2 : List (List Int)) (v3 : Int) : Option (Ex (List (List Int)) (List (List Int))) :=
  (bif (decide (v3 < (a0.length : Int))) then
  (ix a0 v3).bind (fun z4 => (F_laws_toIntS z4).bind (fun y5 => (ix v2 v3).bind (fun z6 => (stx v2 v3 y5).bind (fun z7 => f0 (z7, (IntKind.i64.wrap (v3 + 1)))))))
  else some (.go v2))
@[simp] noncomputable def J_laws_toIntSSx0 (v8 : List (List Int)) : Option (List (List Int)) :=
  some v8
theorem U_laws_toIntSS (a0 : List (List Int)) : Le ((mkx (a0.length : Int) ([] : List Int)).bind (fun z1 => joinK (loopF (fun f s => L_laws_toIntSSx0 a0 f s.1 s.2) (z1, 0))
  (fun s => J_laws_toIntSSx0 s))) (F_laws_toIntSS a0) := callL_le (tt := tt) (FT := FT) (SP := SP) (j := 15) rfl (by kernel_rfl)
noncomputable def L_laws_toIntSx0 (a0 : List Int) (f0 : ((List Int) × Int) → Option (Ex (List Int) (List Int))) (v2 : List Int) (v3 : Int) : Option (Ex (List Int) (List Int)) :=
  (bif (decide (v3 < (a0.length : Int))) then
  (ix a0 v3).bind (fun z4 => (ix v2 v3).bind (fun z5 => (stx v2 v3 z4).bind (fun z6 => f0 (z6, (IntKind.i64.wrap (v3 + 1))))))
  else some (.go v2))
@[simp] noncomputable def J_laws_toIntSx0 (v7 : List Int) : Option (List Int) :=
  some v7
theorem U_laws_toIntS (a0 : List Int) : Le ((mkx (a0.length : Int) (0 : Int)).bind (fun z1 => joinK (loopF (fun f s => L_laws_toIntSx0 a0 f s.1 s.2) (z1, 0))
  (fun s => J_laws_toIntSx0 s))) (F_laws_toIntS a0) := callL_le (tt := tt) (FT := FT) (SP := SP) (j := 16) rfl (by kernel_rfl)
noncomputable def L_laws_toOpSx0 (a0 : List SOp) (f0 : ((List SOp) × Int) → Option (Ex (List SOp) (List SOp))) (v2 : List SOp) (v3 : Int) : Option (Ex (List SOp) (List SOp)) :=
  (bif (decide (v3 < (a0.length : Int))) then
  (ix a0 v3).bind (fun z4 => (F_laws_toOp z4).bind (fun y5 => (ix v2 v3).bind (fun z6 => (stx v2 v3 y5).bind (fun z7 => f0 (z7, (IntKind.i64.wrap (v3 + 1)))))))
  else some (.go v2))
@[simp] noncomputable def J_laws_toOpSx0 (v8 : List SOp) : Option (List SOp) :=
  some v8
theorem U_laws_toOpS (a0 : List SOp) : Le ((mkx (a0.length : Int) ((0, ([], ([], ([], ())))) : SOp)).bind (fun z1 => joinK (loopF (fun f s => L_laws_toOpSx0 a0 f s.1 s.2) (z1, 0))
  (fun s => J_laws_toOpSx0 s))) (F_laws_toOpS a0) := callL_le (tt := tt) (FT := FT) (SP := SP) (j := 17) rfl (by kernel_rfl)
theorem U_laws_toOp (a0 : SOp) : Le ((F_laws_toNodeS a0.2.1).bind (fun y1 => (F_laws_toNodeS a0.2.2.1).bind (fun y2 => (F_laws_toStepS a0.2.2.2.1).bind (fun y3 => some (a0.1, (y1, (y2, (y3, ())))))))) (F_laws_toOp a0) := callL_le (tt := tt) (FT := FT) (SP := SP) (j := 18) rfl (by kernel_rfl)
noncomputable def L_laws_toNodeSx0 (a0 : List SNode) (f0 : ((List SNode) × Int) → Option (Ex (List SNode) (List SNode))) (v2 : List SNode) (v3 : Int) : Option (Ex (List SNode) (List SNode)) :=
  (bif (decide (v3 < (a0.length : Int))) then
  (ix a0 v3).bind (fun z4 => (F_laws_toNode z4).bind (fun y5 => (ix v2 v3).bind (fun z6 => (stx v2 v3 y5).bind (fun z7 => f0 (z7, (IntKind.i64.wrap (v3 + 1)))))))
  else some (.go v2))
@[simp] noncomputable def J_laws_toNodeSx0 (v8 : List SNode) : Option (List SNode) :=
  some v8
theorem U_laws_toNodeS (a0 : List SNode) : Le ((mkx (a0.length : Int) ((0, (ByteArray.empty, (0, (0, (0, (false, ([], ()))))))) : SNode)).bind (fun z1 => joinK (loopF (fun f s => L_laws_toNodeSx0 a0 f s.1 s.2) (z1, 0))
  (fun s => J_laws_toNodeSx0 s))) (F_laws_toNodeS a0) := callL_le (tt := tt) (FT := FT) (SP := SP) (j := 19) rfl (by kernel_rfl)
theorem U_laws_toNode (a0 : SNode) : Le ((F_laws_toIntS a0.2.2.2.2.2.2.1).bind (fun y1 => some (a0.1, (a0.2.1, (a0.2.2.1, (a0.2.2.2.1, (a0.2.2.2.2.1, (a0.2.2.2.2.2.1, (y1, ()))))))))) (F_laws_toNode a0) := callL_le (tt := tt) (FT := FT) (SP := SP) (j := 20) rfl (by kernel_rfl)
noncomputable def L_laws_toStepSx0 (a0 : List SStep) (f0 : ((List SStep) × Int) → Option (Ex (List SStep) (List SStep))) (v2 : List SStep) (v3 : Int) : Option (Ex (List SStep) (List SStep)) :=
  (bif (decide (v3 < (a0.length : Int))) then
  (ix a0 v3).bind (fun z4 => (F_laws_toStep z4).bind (fun y5 => (ix v2 v3).bind (fun z6 => (stx v2 v3 y5).bind (fun z7 => f0 (z7, (IntKind.i64.wrap (v3 + 1)))))))
  else some (.go v2))
@[simp] noncomputable def J_laws_toStepSx0 (v8 : List SStep) : Option (List SStep) :=
  some v8
theorem U_laws_toStepS (a0 : List SStep) : Le ((mkx (a0.length : Int) ((0, (0, ())) : SStep)).bind (fun z1 => joinK (loopF (fun f s => L_laws_toStepSx0 a0 f s.1 s.2) (z1, 0))
  (fun s => J_laws_toStepSx0 s))) (F_laws_toStepS a0) := callL_le (tt := tt) (FT := FT) (SP := SP) (j := 21) rfl (by kernel_rfl)
theorem U_laws_toStep (a0 : SStep) : Le (some (a0.1, (a0.2.1, ()))) (F_laws_toStep a0) := callL_le (tt := tt) (FT := FT) (SP := SP) (j := 22) rfl (by kernel_rfl)
noncomputable def L_laws_toNodeSSx0 (a0 : List (List SNode)) (f0 : ((List (List SNode)) × Int) → Option (Ex (List (List SNode)) (List (List SNode)))) (v2 : List (List SNode)) (v3 : Int) : Option (Ex (List (List SNode)) (List (List SNode))) :=
  (bif (decide (v3 < (a0.length : Int))) then
  (ix a0 v3).bind (fun z4 => (F_laws_toNodeS z4).bind (fun y5 => (ix v2 v3).bind (fun z6 => (stx v2 v3 y5).bind (fun z7 => f0 (z7, (IntKind.i64.wrap (v3 + 1)))))))
  else some (.go v2))
@[simp] noncomputable def J_laws_toNodeSSx0 (v8 : List (List SNode)) : Option (List (List SNode)) :=
  some v8
theorem U_laws_toNodeSS (a0 : List (List SNode)) : Le ((mkx (a0.length : Int) ([] : List SNode)).bind (fun z1 => joinK (loopF (fun f s => L_laws_toNodeSSx0 a0 f s.1 s.2) (z1, 0))
  (fun s => J_laws_toNodeSSx0 s))) (F_laws_toNodeSS a0) := callL_le (tt := tt) (FT := FT) (SP := SP) (j := 23) rfl (by kernel_rfl)
@[simp] noncomputable def J_spec_PlansMeanx3 (v1 : Bool) (v13 : Bool) : Option (Ex (Ex Bool Bool) Bool) :=
  (bif v13 then
  some (.ret (.ret false))
  else some (.go v1))
@[simp] noncomputable def J_spec_PlansMeanx2 (a0 : List STable) (a1 : List (List (List Int))) (a2 : List SOp) (a3 : List (List SNode)) (v1 : Bool) (v2 : Int) (v5 : Bool) : Option (Ex (Ex Bool Bool) Bool) :=
  (bif v5 then
  some (.go v1)
  else (ix a2 v2).bind (fun z6 => (F_spec_EvalPlan a0 a1 z6.2.1).bind (fun y7 => (ix a3 v2).bind (fun z8 => (F_spec_EvalPlan a0 a1 z8).bind (fun y9 => joinK ((bif (y7.2 == 0) then
  (bif (y9.2 == 0) then
  (ix a2 v2).bind (fun z10 => (ix a3 v2).bind (fun z11 => (F_spec_MeansSame a0 a1 z10.2.1 z11).bind (fun y12 => some (.go (!y12)))))
  else some (.go false))
  else some (.go false)))
  (fun s => J_spec_PlansMeanx3 v1 s))))))
@[simp] noncomputable def J_spec_PlansMeanx1 (v2 : Int) (f0 : (Bool × Int) → Option (Ex Bool Bool)) (v14 : Bool) : Option (Ex Bool Bool) :=
  f0 (v14, (IntKind.i64.wrap (v2 + 1)))
noncomputable def L_spec_PlansMeanx0 (a0 : List STable) (a1 : List (List (List Int))) (a2 : List SOp) (a3 : List (List SNode)) (f0 : (Bool × Int) → Option (Ex Bool Bool)) (v1 : Bool) (v2 : Int) : Option (Ex Bool Bool) :=
  (bif (decide (v2 < (a2.length : Int))) then
  joinK (joinK ((ix a2 v2).bind (fun z3 => (bif (z3.1 != 0) then
  some (.go true)
  else (ix a3 v2).bind (fun z4 => some (.go ((z4.length : Int) == 0))))))
  (fun s => J_spec_PlansMeanx2 a0 a1 a2 a3 v1 v2 s))
  (fun s => J_spec_PlansMeanx1 v2 f0 s)
  else some (.go v1))
@[simp] noncomputable def J_spec_PlansMeanx0 (v15 : Bool) : Option Bool :=
  some true
theorem U_spec_PlansMean (a0 : List STable) (a1 : List (List (List Int))) (a2 : List SOp) (a3 : List (List SNode)) : Le ((bif ((a2.length : Int) != (a3.length : Int)) then
  some false
  else joinK (loopF (fun f s => L_spec_PlansMeanx0 a0 a1 a2 a3 f s.1 s.2) (false, 0))
  (fun s => J_spec_PlansMeanx0 s))) (F_spec_PlansMean a0 a1 a2 a3) := callL_le (tt := tt) (FT := FT) (SP := SP) (j := 24) rfl (by kernel_rfl)
noncomputable def L_spec_EvalPlanx0 (a2 : List SNode) (f0 : ((List (List Int)) × Int × Int) → Option (Ex ((List (List Int)) × Int) ((List (List Int)) × Int))) (v4 : List (List Int)) (v5 : Int) (v6 : Int) : Option (Ex ((List (List Int)) × Int) ((List (List Int)) × Int)) :=
  (bif (decide (v6 < (a2.length : Int))) then
  (ix a2 v6).bind (fun z7 => (bif z7.2.2.2.2.2.1 then
  some (.ret ([], 1))
  else f0 (v4, v5, (IntKind.i64.wrap (v6 + 1)))))
  else some (.go (v4, v5)))
@[simp] noncomputable def J_spec_EvalPlanx1 (a0 : List STable) (a1 : List (List (List Int))) (a2 : List SNode) (v8 : List (List Int)) (v9 : Int) : Option ((List (List Int)) × Int) :=
  (F_spec_l04Eval a0 a1 a2 0).bind (fun y10 => (bif (!y10.2) then
  some ([], 2)
  else (F_spec_l04Copy y10.1).bind (fun y11 => some (y11, 0))))
@[simp] noncomputable def J_spec_EvalPlanx0 (a0 : List STable) (a1 : List (List (List Int))) (a2 : List SNode) (v3 : Bool) : Option ((List (List Int)) × Int) :=
  (bif v3 then
  some ([], 1)
  else joinK (loopF (fun f s => L_spec_EvalPlanx0 a2 f s.1 s.2.1 s.2.2) ([], 0, 0))
  (fun s => J_spec_EvalPlanx1 a0 a1 a2 s.1 s.2))
theorem U_spec_EvalPlan (a0 : List STable) (a1 : List (List (List Int))) (a2 : List SNode) : Le (joinK ((F_spec_StoreOk a0 a1).bind (fun y1 => (bif (!y1) then
  some (.go true)
  else (F_spec_TypedOk a0 a2).bind (fun y2 => some (.go (!y2))))))
  (fun s => J_spec_EvalPlanx0 a0 a1 a2 s)) (F_spec_EvalPlan a0 a1 a2) := callL_le (tt := tt) (FT := FT) (SP := SP) (j := 25) rfl (by kernel_rfl)
noncomputable def L_spec_StoreOkx2 (a1 : List (List (List Int))) (v4 : Int) (v7 : Int) (f2 : (Bool × Int) → Option (Ex (Ex (Ex Bool Bool) Bool) Bool)) (v12 : Bool) (v13 : Int) : Option (Ex (Ex (Ex Bool Bool) Bool) Bool) :=
  (ix a1 v4).bind (fun z14 => (ix z14 v7).bind (fun z15 => (bif (decide (v13 < (z15.length : Int))) then
  (ix a1 v4).bind (fun z16 => (ix z16 v7).bind (fun z17 => (ix z17 v13).bind (fun z18 => (F_spec_l04Value z18).bind (fun y19 => (bif (!y19) then
  some (.ret (.ret (.ret false)))
  else f2 (v12, (IntKind.i64.wrap (v13 + 1))))))))
  else some (.go v12))))
@[simp] noncomputable def J_spec_StoreOkx3 (v7 : Int) (f1 : (Bool × Int) → Option (Ex (Ex Bool Bool) Bool)) (v20 : Bool) : Option (Ex (Ex Bool Bool) Bool) :=
  f1 (v20, (IntKind.i64.wrap (v7 + 1)))
noncomputable def L_spec_StoreOkx1 (a0 : List STable) (a1 : List (List (List Int))) (v4 : Int) (f1 : (Bool × Int) → Option (Ex (Ex Bool Bool) Bool)) (v6 : Bool) (v7 : Int) : Option (Ex (Ex Bool Bool) Bool) :=
  (ix a1 v4).bind (fun z8 => (bif (decide (v7 < (z8.length : Int))) then
  joinK ((ix a1 v4).bind (fun z9 => (ix z9 v7).bind (fun z10 => (ix a0 v4).bind (fun z11 => (bif ((z10.length : Int) != z11.2.1) then
  some (.ret (.ret (.ret false)))
  else loopF (fun f s => L_spec_StoreOkx2 a1 v4 v7 f s.1 s.2) (v6, 0))))))
  (fun s => J_spec_StoreOkx3 v7 f1 s)
  else some (.go v6)))
@[simp] noncomputable def J_spec_StoreOkx2 (v4 : Int) (f0 : (Bool × Int) → Option (Ex Bool Bool)) (v21 : Bool) : Option (Ex Bool Bool) :=
  f0 (v21, (IntKind.i64.wrap (v4 + 1)))
noncomputable def L_spec_StoreOkx0 (a0 : List STable) (a1 : List (List (List Int))) (f0 : (Bool × Int) → Option (Ex Bool Bool)) (v3 : Bool) (v4 : Int) : Option (Ex Bool Bool) :=
  (bif (decide (v4 < (a0.length : Int))) then
  joinK ((ix a1 v4).bind (fun z5 => (bif (decide ((z5.length : Int) > 40)) then
  some (.ret (.ret false))
  else loopF (fun f s => L_spec_StoreOkx1 a0 a1 v4 f s.1 s.2) (v3, 0))))
  (fun s => J_spec_StoreOkx2 v4 f0 s)
  else some (.go v3))
@[simp] noncomputable def J_spec_StoreOkx1 (v22 : Bool) : Option Bool :=
  some true
@[simp] noncomputable def J_spec_StoreOkx0 (a0 : List STable) (a1 : List (List (List Int))) (v2 : Bool) : Option Bool :=
  (bif v2 then
  some false
  else joinK (loopF (fun f s => L_spec_StoreOkx0 a0 a1 f s.1 s.2) (false, 0))
  (fun s => J_spec_StoreOkx1 s))
theorem U_spec_StoreOk (a0 : List STable) (a1 : List (List (List Int))) : Le (joinK ((F_spec_SchemaOk a0).bind (fun y1 => (bif (!y1) then
  some (.go true)
  else some (.go ((a1.length : Int) != (a0.length : Int))))))
  (fun s => J_spec_StoreOkx0 a0 a1 s)) (F_spec_StoreOk a0 a1) := callL_le (tt := tt) (FT := FT) (SP := SP) (j := 26) rfl (by kernel_rfl)
@[simp] noncomputable def J_spec_SchemaOkx1 (v1 : Bool) (v2 : Int) (f0 : (Bool × Int) → Option (Ex Bool Bool)) (v10 : Bool) : Option (Ex Bool Bool) :=
  (bif v10 then
  some (.ret false)
  else f0 (v1, (IntKind.i64.wrap (v2 + 1))))
noncomputable def L_spec_SchemaOkx0 (a0 : List STable) (f0 : (Bool × Int) → Option (Ex Bool Bool)) (v1 : Bool) (v2 : Int) : Option (Ex Bool Bool) :=
  (bif (decide (v2 < (a0.length : Int))) then
  joinK ((ix a0 v2).bind (fun z3 => (F_spec_WordOk z3.1).bind (fun y4 => (bif (!y4) then
  some (.go true)
  else (ix a0 v2).bind (fun z5 => (F_spec_l01In z5.2.1 1 6).bind (fun y6 => (bif (!y6) then
  some (.go true)
  else (bif (decide (v2 > 0)) then
  (ix a0 (IntKind.i64.wrap (v2 - 1))).bind (fun z7 => (ix a0 v2).bind (fun z8 => (F_spec_l01Less z7.1 z8.1).bind (fun y9 => some (.go (!y9)))))
  else some (.go false)))))))))
  (fun s => J_spec_SchemaOkx1 v1 v2 f0 s)
  else some (.go v1))
@[simp] noncomputable def J_spec_SchemaOkx0 (v11 : Bool) : Option Bool :=
  some true
theorem U_spec_SchemaOk (a0 : List STable) : Le ((bif (decide ((a0.length : Int) > 8)) then
  some false
  else joinK (loopF (fun f s => L_spec_SchemaOkx0 a0 f s.1 s.2) (false, 0))
  (fun s => J_spec_SchemaOkx0 s))) (F_spec_SchemaOk a0) := callL_le (tt := tt) (FT := FT) (SP := SP) (j := 27) rfl (by kernel_rfl)
@[simp] noncomputable def J_spec_WordOkx2 (v4 : Bool) (v5 : Int) (f0 : (Bool × Int) → Option (Ex Bool Bool)) (v12 : Bool) : Option (Ex Bool Bool) :=
  (bif v12 then
  some (.ret false)
  else f0 (v4, (IntKind.i64.wrap (v5 + 1))))
noncomputable def L_spec_WordOkx0 (a0 : ByteArray) (f0 : (Bool × Int) → Option (Ex Bool Bool)) (v4 : Bool) (v5 : Int) : Option (Ex Bool Bool) :=
  (bif (decide (v5 < (a0.size : Int))) then
  joinK ((bix a0 v5).bind (fun z6 => (bif (decide (z6 < 97)) then
  (bix a0 v5).bind (fun z7 => (bif (decide (z7 < 48)) then
  some (.go true)
  else (bix a0 v5).bind (fun z8 => some (.go (decide (z8 > 57))))))
  else (bix a0 v5).bind (fun z9 => (bif (decide (z9 > 122)) then
  (bix a0 v5).bind (fun z10 => (bif (decide (z10 < 48)) then
  some (.go true)
  else (bix a0 v5).bind (fun z11 => some (.go (decide (z11 > 57))))))
  else some (.go false))))))
  (fun s => J_spec_WordOkx2 v4 v5 f0 s)
  else some (.go v4))
@[simp] noncomputable def J_spec_WordOkx1 (v13 : Bool) : Option Bool :=
  some true
@[simp] noncomputable def J_spec_WordOkx0 (a0 : ByteArray) (v3 : Bool) : Option Bool :=
  (bif v3 then
  some false
  else joinK (loopF (fun f s => L_spec_WordOkx0 a0 f s.1 s.2) (false, 0))
  (fun s => J_spec_WordOkx1 s))
theorem U_spec_WordOk (a0 : ByteArray) : Le (joinK ((F_spec_l01In (a0.size : Int) 1 12).bind (fun y1 => (bif (!y1) then
  some (.go true)
  else (bix a0 0).bind (fun z2 => some (.go (decide (z2 < 97)))))))
  (fun s => J_spec_WordOkx0 a0 s)) (F_spec_WordOk a0) := callL_le (tt := tt) (FT := FT) (SP := SP) (j := 28) rfl (by kernel_rfl)
@[simp] noncomputable def J_spec_l01Inx0 (v1 : Bool) : Option Bool :=
  some v1
theorem U_spec_l01In (a0 : Int) (a1 : Int) (a2 : Int) : Le (joinK ((bif (decide (a1 ≤ a0)) then
  some (.go (decide (a0 ≤ a2)))
  else some (.go false)))
  (fun s => J_spec_l01Inx0 s)) (F_spec_l01In a0 a1 a2) := callL_le (tt := tt) (FT := FT) (SP := SP) (j := 29) rfl (by kernel_rfl)
@[simp] noncomputable def J_spec_l01Lessx1 (a0 : ByteArray) (a1 : ByteArray) (v1 : Bool) (v2 : Int) (f0 : (Bool × Int) → Option (Ex Bool Bool)) (v3 : Bool) : Option (Ex Bool Bool) :=
  (bif v3 then
  (bix a0 v2).bind (fun z4 => (bix a1 v2).bind (fun z5 => (bif (z4 != z5) then
  (bix a0 v2).bind (fun z6 => (bix a1 v2).bind (fun z7 => some (.ret (decide (z6 < z7)))))
  else f0 (v1, (IntKind.i64.wrap (v2 + 1))))))
  else some (.go v1))
noncomputable def L_spec_l01Lessx0 (a0 : ByteArray) (a1 : ByteArray) (f0 : (Bool × Int) → Option (Ex Bool Bool)) (v1 : Bool) (v2 : Int) : Option (Ex Bool Bool) :=
  joinK ((bif (decide (v2 < (a0.size : Int))) then
  some (.go (decide (v2 < (a1.size : Int))))
  else some (.go false)))
  (fun s => J_spec_l01Lessx1 a0 a1 v1 v2 f0 s)
@[simp] noncomputable def J_spec_l01Lessx0 (a0 : ByteArray) (a1 : ByteArray) (v8 : Bool) : Option Bool :=
  some (decide ((a0.size : Int) < (a1.size : Int)))
theorem U_spec_l01Less (a0 : ByteArray) (a1 : ByteArray) : Le (joinK (loopF (fun f s => L_spec_l01Lessx0 a0 a1 f s.1 s.2) (false, 0))
  (fun s => J_spec_l01Lessx0 a0 a1 s)) (F_spec_l01Less a0 a1) := callL_le (tt := tt) (FT := FT) (SP := SP) (j := 30) rfl (by kernel_rfl)
@[simp] noncomputable def J_spec_l04Valuex0 (v2 : Bool) : Option Bool :=
  some v2
theorem U_spec_l04Value (a0 : Int) : Le (joinK ((F_spec_l01Number a0).bind (fun y1 => (bif y1 then
  some (.go true)
  else some (.go (a0 == (-2000000))))))
  (fun s => J_spec_l04Valuex0 s)) (F_spec_l04Value a0) := callL_le (tt := tt) (FT := FT) (SP := SP) (j := 31) rfl (by kernel_rfl)
theorem U_spec_l01Number (a0 : Int) : Le ((F_spec_l01In a0 (-1000000) 1000000).bind (fun y1 => some y1)) (F_spec_l01Number a0) := callL_le (tt := tt) (FT := FT) (SP := SP) (j := 32) rfl (by kernel_rfl)
theorem U_spec_TypedOk (a0 : List STable) (a1 : List SNode) : Le ((F_spec_WidthOf a0 a1).bind (fun y1 => some (y1 != (-1)))) (F_spec_TypedOk a0 a1) := callL_le (tt := tt) (FT := FT) (SP := SP) (j := 33) rfl (by kernel_rfl)
@[simp] noncomputable def J_spec_WidthOfx0 (a0 : List STable) (a1 : List SNode) (v3 : Bool) : Option Int :=
  (bif v3 then
  some (-1)
  else (F_spec_l03Width a0 a1 0).bind (fun y4 => some y4))
theorem U_spec_WidthOf (a0 : List STable) (a1 : List SNode) : Le (joinK ((F_spec_SchemaOk a0).bind (fun y1 => (bif (!y1) then
  some (.go true)
  else (F_spec_PlanOk a1).bind (fun y2 => some (.go (!y2))))))
  (fun s => J_spec_WidthOfx0 a0 a1 s)) (F_spec_WidthOf a0 a1) := callL_le (tt := tt) (FT := FT) (SP := SP) (j := 34) rfl (by kernel_rfl)
noncomputable def L_spec_PlanOkx0 (a0 : List SNode) (f0 : (Bool × Int) → Option (Ex Bool Bool)) (v2 : Bool) (v3 : Int) : Option (Ex Bool Bool) :=
  (bif (decide (v3 < (a0.length : Int))) then
  (ix a0 v3).bind (fun z4 => (F_spec_NodeOk z4).bind (fun y5 => (bif (!y5) then
  some (.ret false)
  else f0 (v2, (IntKind.i64.wrap (v3 + 1))))))
  else some (.go v2))
@[simp] noncomputable def J_spec_PlanOkx0 (a0 : List SNode) (v6 : Bool) : Option Bool :=
  (F_spec_l02End a0 0 10).bind (fun y7 => some (y7.1 == (a0.length : Int)))
theorem U_spec_PlanOk (a0 : List SNode) : Le ((F_spec_l01In (a0.length : Int) 1 40).bind (fun y1 => (bif (!y1) then
  some false
  else joinK (loopF (fun f s => L_spec_PlanOkx0 a0 f s.1 s.2) (false, 0))
  (fun s => J_spec_PlanOkx0 a0 s)))) (F_spec_PlanOk a0) := callL_le (tt := tt) (FT := FT) (SP := SP) (j := 35) rfl (by kernel_rfl)
@[simp] noncomputable def J_spec_NodeOkx2 (v11 : Bool) : Option (Ex Bool Bool) :=
  some (.ret v11)
@[simp] noncomputable def J_spec_NodeOkx3 (v15 : Bool) : Option (Ex Bool Bool) :=
  some (.ret v15)
noncomputable def L_spec_NodeOkx0 (a0 : SNode) (f0 : (Bool × Int) → Option (Ex (Ex Bool Bool) Bool)) (v16 : Bool) (v17 : Int) : Option (Ex (Ex Bool Bool) Bool) :=
  (bif (decide (v17 < (a0.2.2.2.2.2.2.1.length : Int))) then
  (ix a0.2.2.2.2.2.2.1 v17).bind (fun z18 => (F_spec_l02Col z18).bind (fun y19 => (bif (!y19) then
  some (.ret (.ret false))
  else f0 (v16, (IntKind.i64.wrap (v17 + 1))))))
  else some (.go v16))
@[simp] noncomputable def J_spec_NodeOkx5 (v22 : Bool) : Option (Ex Bool Bool) :=
  some (.ret v22)
@[simp] noncomputable def J_spec_NodeOkx4 (a0 : SNode) (v20 : Bool) : Option (Ex Bool Bool) :=
  joinK ((F_spec_l01In (a0.2.2.2.2.2.2.1.length : Int) 1 6).bind (fun y21 => (bif y21 then
  (bif (a0.2.2.1 == 0) then
  (bif (a0.2.2.2.2.1 == 0) then
  some (.go (!a0.2.2.2.2.2.1))
  else some (.go false))
  else some (.go false))
  else some (.go false))))
  (fun s => J_spec_NodeOkx5 s)
@[simp] noncomputable def J_spec_NodeOkx6 (v25 : Bool) : Option (Ex Bool Bool) :=
  some (.ret v25)
@[simp] noncomputable def J_spec_NodeOkx7 (v27 : Bool) : Option (Ex Bool Bool) :=
  some (.ret v27)
@[simp] noncomputable def J_spec_NodeOkx8 (v29 : Bool) : Option (Ex Bool Bool) :=
  some (.ret v29)
@[simp] noncomputable def J_spec_NodeOkx10 (v31 : Bool) : Option (Ex Bool Bool) :=
  some (.ret v31)
@[simp] noncomputable def J_spec_NodeOkx9 (a0 : SNode) (v30 : Bool) : Option (Ex Bool Bool) :=
  (bif v30 then
  joinK ((bif (a0.2.2.1 == 0) then
  (bif (a0.2.2.2.2.1 == 0) then
  some (.go (!a0.2.2.2.2.2.1))
  else some (.go false))
  else some (.go false)))
  (fun s => J_spec_NodeOkx10 s)
  else some (.go false))
@[simp] noncomputable def J_spec_NodeOkx1 (v32 : Bool) : Option Bool :=
  some false
@[simp] noncomputable def J_spec_NodeOkx0 (a0 : SNode) (v9 : Bool) : Option Bool :=
  (bif v9 then
  some false
  else joinK ((bif (a0.1 == 0) then
  joinK ((F_spec_WordOk a0.2.1).bind (fun y10 => (bif y10 then
  (bif (a0.2.2.1 == 0) then
  (bif (a0.2.2.2.2.1 == 0) then
  some (.go (!a0.2.2.2.2.2.1))
  else some (.go false))
  else some (.go false))
  else some (.go false))))
  (fun s => J_spec_NodeOkx2 s)
  else (bif (a0.1 == 1) then
  joinK ((F_spec_l02Col a0.2.2.1).bind (fun y12 => (bif y12 then
  (F_spec_l01In a0.2.2.2.1 0 3).bind (fun y13 => (bif y13 then
  (F_spec_l01Number a0.2.2.2.2.1).bind (fun y14 => (bif y14 then
  (bif (a0.2.2.2.1 != 3) then
  some (.go true)
  else (bif (a0.2.2.2.2.1 == 0) then
  some (.go (!a0.2.2.2.2.2.1))
  else some (.go false)))
  else some (.go false)))
  else some (.go false)))
  else some (.go false))))
  (fun s => J_spec_NodeOkx3 s)
  else (bif (a0.1 == 2) then
  joinK (loopF (fun f s => L_spec_NodeOkx0 a0 f s.1 s.2) (false, 0))
  (fun s => J_spec_NodeOkx4 a0 s)
  else (bif (a0.1 == 3) then
  joinK ((F_spec_l02Col a0.2.2.1).bind (fun y23 => (bif y23 then
  (F_spec_l02Col a0.2.2.2.2.1).bind (fun y24 => (bif y24 then
  some (.go (!a0.2.2.2.2.2.1))
  else some (.go false)))
  else some (.go false))))
  (fun s => J_spec_NodeOkx6 s)
  else (bif (a0.1 == 5) then
  joinK ((F_spec_l02Col a0.2.2.1).bind (fun y26 => (bif y26 then
  (bif (a0.2.2.2.2.1 == 0) then
  some (.go (!a0.2.2.2.2.2.1))
  else some (.go false))
  else some (.go false))))
  (fun s => J_spec_NodeOkx7 s)
  else (bif (a0.1 == 6) then
  joinK ((bif (a0.2.2.1 == 0) then
  (F_spec_l01In a0.2.2.2.2.1 0 1000000).bind (fun y28 => some (.go y28))
  else some (.go false)))
  (fun s => J_spec_NodeOkx8 s)
  else joinK ((bif (a0.1 == 4) then
  some (.go true)
  else some (.go (a0.1 == 7))))
  (fun s => J_spec_NodeOkx9 a0 s))))))))
  (fun s => J_spec_NodeOkx1 s))
theorem U_spec_NodeOk (a0 : SNode) : Le (joinK ((bif (a0.1 != 0) then
  (bif (!(a0.2.1.toList == ByteArray.empty.toList)) then
  some (.go true)
  else (bif (a0.1 != 2) then
  (bif (decide ((a0.2.2.2.2.2.2.1.length : Int) > 0)) then
  some (.go true)
  else (bif (a0.1 != 1) then
  (bif (a0.2.2.2.1 != 0) then
  some (.go true)
  else (bif a0.2.2.2.2.2.1 then
  (F_spec_l01In a0.2.2.2.2.1 0 39).bind (fun y1 => some (.go (!y1)))
  else some (.go false)))
  else (bif a0.2.2.2.2.2.1 then
  (F_spec_l01In a0.2.2.2.2.1 0 39).bind (fun y2 => some (.go (!y2)))
  else some (.go false))))
  else (bif (a0.1 != 1) then
  (bif (a0.2.2.2.1 != 0) then
  some (.go true)
  else (bif a0.2.2.2.2.2.1 then
  (F_spec_l01In a0.2.2.2.2.1 0 39).bind (fun y3 => some (.go (!y3)))
  else some (.go false)))
  else (bif a0.2.2.2.2.2.1 then
  (F_spec_l01In a0.2.2.2.2.1 0 39).bind (fun y4 => some (.go (!y4)))
  else some (.go false)))))
  else (bif (a0.1 != 2) then
  (bif (decide ((a0.2.2.2.2.2.2.1.length : Int) > 0)) then
  some (.go true)
  else (bif (a0.1 != 1) then
  (bif (a0.2.2.2.1 != 0) then
  some (.go true)
  else (bif a0.2.2.2.2.2.1 then
  (F_spec_l01In a0.2.2.2.2.1 0 39).bind (fun y5 => some (.go (!y5)))
  else some (.go false)))
  else (bif a0.2.2.2.2.2.1 then
  (F_spec_l01In a0.2.2.2.2.1 0 39).bind (fun y6 => some (.go (!y6)))
  else some (.go false))))
  else (bif (a0.1 != 1) then
  (bif (a0.2.2.2.1 != 0) then
  some (.go true)
  else (bif a0.2.2.2.2.2.1 then
  (F_spec_l01In a0.2.2.2.2.1 0 39).bind (fun y7 => some (.go (!y7)))
  else some (.go false)))
  else (bif a0.2.2.2.2.2.1 then
  (F_spec_l01In a0.2.2.2.2.1 0 39).bind (fun y8 => some (.go (!y8)))
  else some (.go false))))))
  (fun s => J_spec_NodeOkx0 a0 s)) (F_spec_NodeOk a0) := callL_le (tt := tt) (FT := FT) (SP := SP) (j := 36) rfl (by kernel_rfl)
theorem U_spec_l02Col (a0 : Int) : Le ((F_spec_l01In a0 0 63).bind (fun y1 => some y1)) (F_spec_l02Col a0) := callL_le (tt := tt) (FT := FT) (SP := SP) (j := 37) rfl (by kernel_rfl)
@[simp] noncomputable def J_spec_l02Endx2 (v6 : Int) (f0 : (Int × Int × Int × Int × Int) → Option (Ex (Int × Int) (Int × Int × Int × Int))) (v10 : Int) (v11 : Int) (v12 : Int) (v13 : Int) : Option (Ex (Int × Int) (Int × Int × Int × Int)) :=
  f0 (v10, v11, v12, v13, (IntKind.i64.wrap (v6 + 1)))
noncomputable def L_spec_l02Endx0 (a0 : List SNode) (a1 : Int) (a2 : Int) (f0 : (Int × Int × Int × Int × Int) → Option (Ex (Int × Int) (Int × Int × Int × Int))) (v2 : Int) (v3 : Int) (v4 : Int) (v5 : Int) (v6 : Int) : Option (Ex (Int × Int) (Int × Int × Int × Int)) :=
  (ix a0 a1).bind (fun z7 => (F_spec_ArityOf z7.1).bind (fun y8 => (bif (decide (v6 < y8)) then
  joinK ((F_spec_l02End a0 v4 (IntKind.i64.wrap (a2 - 1))).bind (fun y9 => (bif (decide (y9.1 < 0)) then
  some (.ret (.ret ((-1), 0)))
  else (bif (decide (y9.2 > v5)) then
  some (.go (v2, v3, y9.1, y9.2))
  else some (.go (v2, v3, y9.1, v5))))))
  (fun s => J_spec_l02Endx2 v6 f0 s.1 s.2.1 s.2.2.1 s.2.2.2)
  else some (.go (v2, v3, v4, v5)))))
@[simp] noncomputable def J_spec_l02Endx1 (v14 : Int) (v15 : Int) (v16 : Int) (v17 : Int) : Option (Int × Int) :=
  some (v16, (IntKind.i64.wrap (v17 + 1)))
@[simp] noncomputable def J_spec_l02Endx0 (a0 : List SNode) (a1 : Int) (a2 : Int) (v1 : Bool) : Option (Int × Int) :=
  (bif v1 then
  some ((-1), 0)
  else joinK (loopF (fun f s => L_spec_l02Endx0 a0 a1 a2 f s.1 s.2.1 s.2.2.1 s.2.2.2.1 s.2.2.2.2) (0, 0, (IntKind.i64.wrap (a1 + 1)), 0, 0))
  (fun s => J_spec_l02Endx1 s.1 s.2.1 s.2.2.1 s.2.2.2))
theorem U_spec_l02End (a0 : List SNode) (a1 : Int) (a2 : Int) : Le (joinK ((bif (decide (a1 ≥ (a0.length : Int))) then
  some (.go true)
  else some (.go (a2 == 0))))
  (fun s => J_spec_l02Endx0 a0 a1 a2 s)) (F_spec_l02End a0 a1 a2) := callL_le (tt := tt) (FT := FT) (SP := SP) (j := 38) rfl (by kernel_rfl)
@[simp] noncomputable def J_spec_ArityOfx1 (v2 : Bool) : Option Int :=
  (bif v2 then
  some 1
  else some (-1))
@[simp] noncomputable def J_spec_ArityOfx0 (a0 : Int) (v1 : Bool) : Option Int :=
  (bif v1 then
  some 2
  else joinK ((bif (a0 == 1) then
  some (.go true)
  else (bif (a0 == 2) then
  some (.go true)
  else (bif (a0 == 5) then
  some (.go true)
  else (bif (a0 == 6) then
  some (.go true)
  else some (.go (a0 == 7)))))))
  (fun s => J_spec_ArityOfx1 s))
theorem U_spec_ArityOf (a0 : Int) : Le ((bif (a0 == 0) then
  some 0
  else joinK ((bif (a0 == 3) then
  some (.go true)
  else some (.go (a0 == 4))))
  (fun s => J_spec_ArityOfx0 a0 s))) (F_spec_ArityOf a0) := callL_le (tt := tt) (FT := FT) (SP := SP) (j := 39) rfl (by kernel_rfl)
noncomputable def L_spec_l03Widthx0 (a0 : List STable) (a1 : List SNode) (y2 : List Int) (f0 : (Int × (List Int) × Int) → Option (Ex Int (Int × (List Int)))) (v3 : Int) (v4 : List Int) (v5 : Int) : Option (Ex Int (Int × (List Int))) :=
  (bif (decide (v5 < (y2.length : Int))) then
  (ix y2 v5).bind (fun z6 => (F_spec_l03Width a0 a1 z6).bind (fun y7 => (bif (decide (y7 < 0)) then
  some (.ret (-1))
  else (apx v4 ([y7])).bind (fun z8 => f0 (v3, z8, (IntKind.i64.wrap (v5 + 1)))))))
  else some (.go (v3, v4)))
noncomputable def L_spec_l03Widthx1 (z1 : SNode) (v10 : List Int) (f1 : (Int × Int) → Option (Ex (Ex Int Int) Int)) (v15 : Int) (v16 : Int) : Option (Ex (Ex Int Int) Int) :=
  (bif (decide (v16 < (z1.2.2.2.2.2.2.1.length : Int))) then
  (ix z1.2.2.2.2.2.2.1 v16).bind (fun z17 => (ix v10 0).bind (fun z18 => (bif (decide (z17 ≥ z18)) then
  some (.ret (.ret (-1)))
  else f1 (v15, (IntKind.i64.wrap (v16 + 1))))))
  else some (.go v15))
@[simp] noncomputable def J_spec_l03Widthx3 (z1 : SNode) (v19 : Int) : Option (Ex Int Int) :=
  some (.ret (z1.2.2.2.2.2.2.1.length : Int))
@[simp] noncomputable def J_spec_l03Widthx4 (v10 : List Int) (v24 : Bool) : Option (Ex Int Int) :=
  (bif v24 then
  some (.ret (-1))
  else (ix v10 0).bind (fun z25 => (ix v10 1).bind (fun z26 => some (.ret (IntKind.i64.wrap (z25 + z26))))))
@[simp] noncomputable def J_spec_l03Widthx2 (z1 : SNode) (v9 : Int) (v10 : List Int) (v13 : Bool) : Option (Ex Int Int) :=
  (bif v13 then
  (ix v10 0).bind (fun z14 => (bif (decide (z1.2.2.1 ≥ z14)) then
  some (.ret (-1))
  else some (.go v9)))
  else (bif (z1.1 == 2) then
  joinK (loopF (fun f s => L_spec_l03Widthx1 z1 v10 f s.1 s.2) (v9, 0))
  (fun s => J_spec_l03Widthx3 z1 s)
  else (bif (z1.1 == 3) then
  joinK ((ix v10 0).bind (fun z20 => (bif (decide (z1.2.2.1 ≥ z20)) then
  some (.go true)
  else (ix v10 1).bind (fun z21 => (bif (decide (z1.2.2.2.2.1 ≥ z21)) then
  some (.go true)
  else (ix v10 0).bind (fun z22 => (ix v10 1).bind (fun z23 => some (.go (decide ((IntKind.i64.wrap (z22 + z23)) > 64))))))))))
  (fun s => J_spec_l03Widthx4 v10 s)
  else (bif (z1.1 == 4) then
  (ix v10 0).bind (fun z27 => (ix v10 1).bind (fun z28 => (bif (z27 != z28) then
  some (.ret (-1))
  else some (.go v9))))
  else some (.go v9)))))
@[simp] noncomputable def J_spec_l03Widthx1 (v10 : List Int) (v29 : Int) : Option Int :=
  (ix v10 0).bind (fun z30 => some z30)
@[simp] noncomputable def J_spec_l03Widthx0 (a0 : List STable) (z1 : SNode) (v9 : Int) (v10 : List Int) : Option Int :=
  joinK ((bif (z1.1 == 0) then
  (F_spec_l03Find a0 z1.2.1).bind (fun y11 => (bif (decide (y11 < 0)) then
  some (.ret (-1))
  else (ix a0 y11).bind (fun z12 => some (.ret z12.2.1))))
  else joinK ((bif (z1.1 == 1) then
  some (.go true)
  else some (.go (z1.1 == 5))))
  (fun s => J_spec_l03Widthx2 z1 v9 v10 s)))
  (fun s => J_spec_l03Widthx1 v10 s)
theorem U_spec_l03Width (a0 : List STable) (a1 : List SNode) (a2 : Int) : Le ((ix a1 a2).bind (fun z1 => (F_spec_l02Kids a1 a2).bind (fun y2 => joinK (loopF (fun f s => L_spec_l03Widthx0 a0 a1 y2 f s.1 s.2.1 s.2.2) (0, [], 0))
  (fun s => J_spec_l03Widthx0 a0 z1 s.1 s.2)))) (F_spec_l03Width a0 a1 a2) := callL_le (tt := tt) (FT := FT) (SP := SP) (j := 40) rfl (by kernel_rfl)
noncomputable def L_spec_l02Kidsx0 (a0 : List SNode) (a1 : Int) (f0 : ((List Int) × Int × Int) → Option (Ex (List Int) (List Int))) (v1 : List Int) (v2 : Int) (v3 : Int) : Option (Ex (List Int) (List Int)) :=
  (ix a0 a1).bind (fun z4 => (F_spec_ArityOf z4.1).bind (fun y5 => (bif (decide (v3 < y5)) then
  (apx v1 ([v2])).bind (fun z6 => (F_spec_l02End a0 v2 10).bind (fun y7 => f0 (z6, y7.1, (IntKind.i64.wrap (v3 + 1)))))
  else some (.go v1))))
@[simp] noncomputable def J_spec_l02Kidsx0 (v8 : List Int) : Option (List Int) :=
  some v8
theorem U_spec_l02Kids (a0 : List SNode) (a1 : Int) : Le (joinK (loopF (fun f s => L_spec_l02Kidsx0 a0 a1 f s.1 s.2.1 s.2.2) ([], (IntKind.i64.wrap (a1 + 1)), 0))
  (fun s => J_spec_l02Kidsx0 s)) (F_spec_l02Kids a0 a1) := callL_le (tt := tt) (FT := FT) (SP := SP) (j := 41) rfl (by kernel_rfl)
noncomputable def L_spec_l03Findx0 (a0 : List STable) (a1 : ByteArray) (f0 : (Int × Int) → Option (Ex Int Int)) (v1 : Int) (v2 : Int) : Option (Ex Int Int) :=
  (bif (decide (v2 < (a0.length : Int))) then
  (ix a0 v2).bind (fun z3 => (bif (z3.1.toList == a1.toList) then
  some (.ret v2)
  else f0 (v1, (IntKind.i64.wrap (v2 + 1)))))
  else some (.go v1))
@[simp] noncomputable def J_spec_l03Findx0 (v4 : Int) : Option Int :=
  some (-1)
theorem U_spec_l03Find (a0 : List STable) (a1 : ByteArray) : Le (joinK (loopF (fun f s => L_spec_l03Findx0 a0 a1 f s.1 s.2) (0, 0))
  (fun s => J_spec_l03Findx0 s)) (F_spec_l03Find a0 a1) := callL_le (tt := tt) (FT := FT) (SP := SP) (j := 42) rfl (by kernel_rfl)
noncomputable def L_spec_l04Evalx0 (a0 : List STable) (a1 : List (List (List Int))) (a2 : List SNode) (y2 : List Int) (f0 : ((List (List Int)) × Bool × (List (List (List Int))) × Int) → Option (Ex ((List (List Int)) × Bool) ((List (List Int)) × Bool × (List (List (List Int)))))) (v3 : List (List Int)) (v4 : Bool) (v5 : List (List (List Int))) (v6 : Int) : Option (Ex ((List (List Int)) × Bool) ((List (List Int)) × Bool × (List (List (List Int))))) :=
  (bif (decide (v6 < (y2.length : Int))) then
  (ix y2 v6).bind (fun z7 => (F_spec_l04Eval a0 a1 a2 z7).bind (fun y8 => (bif (!y8.2) then
  some (.ret ([], false))
  else (apx v5 ([y8.1])).bind (fun z9 => f0 (v3, v4, z9, (IntKind.i64.wrap (v6 + 1)))))))
  else some (.go (v3, v4, v5)))
noncomputable def L_spec_l04Evalx2 (v12 : List (List (List Int))) (v27 : Int) (f2 : ((List (List Int)) × Int) → Option (Ex ((List (List Int)) × Bool) (List (List Int)))) (v28 : List (List Int)) (v29 : Int) : Option (Ex ((List (List Int)) × Bool) (List (List Int))) :=
  (ix v12 v27).bind (fun z30 => (ix v12 v27).bind (fun z31 => (bif (decide (v29 < (z31.length : Int))) then
  (ix v12 v27).bind (fun z32 => (ix v12 v27).bind (fun z33 => (ix z33 v29).bind (fun z34 => (apx v28 ([z34])).bind (fun z35 => f2 (z35, (IntKind.i64.wrap (v29 + 1)))))))
  else some (.go v28))))
@[simp] noncomputable def J_spec_l04Evalx1 (v27 : Int) (f1 : ((List (List Int)) × Int) → Option ((List (List Int)) × Bool)) (v36 : List (List Int)) : Option ((List (List Int)) × Bool) :=
  f1 (v36, (IntKind.i64.wrap (v27 + 1)))
noncomputable def L_spec_l04Evalx1 (v12 : List (List (List Int))) (f1 : ((List (List Int)) × Int) → Option ((List (List Int)) × Bool)) (v26 : List (List Int)) (v27 : Int) : Option ((List (List Int)) × Bool) :=
  (bif (decide (v27 < 2)) then
  joinK (loopF (fun f s => L_spec_l04Evalx2 v12 v27 f s.1 s.2) (v26, 0))
  (fun s => J_spec_l04Evalx1 v27 f1 s)
  else some (v26, (decide ((v26.length : Int) ≤ 200))))
@[simp] noncomputable def J_spec_l04Evalx0 (a0 : List STable) (a1 : List (List (List Int))) (z1 : SNode) (v10 : List (List Int)) (v11 : Bool) (v12 : List (List (List Int))) : Option ((List (List Int)) × Bool) :=
  (bif (z1.1 == 0) then
  (F_spec_l03Find a0 z1.2.1).bind (fun y13 => (ix a1 y13).bind (fun z14 => some (z14, (decide ((z14.length : Int) ≤ 200)))))
  else (bif (z1.1 == 1) then
  (ix v12 0).bind (fun z15 => (ix v12 0).bind (fun z16 => (F_spec_l04Filter (z1.1, (z1.2.1, (z1.2.2.1, (z1.2.2.2.1, (z1.2.2.2.2.1, (z1.2.2.2.2.2.1, (z1.2.2.2.2.2.2.1, ()))))))) z16).bind (fun y17 => some (y17, (decide ((y17.length : Int) ≤ 200))))))
  else (bif (z1.1 == 2) then
  (ix v12 0).bind (fun z18 => (ix v12 0).bind (fun z19 => (F_spec_l04Keep (z1.1, (z1.2.1, (z1.2.2.1, (z1.2.2.2.1, (z1.2.2.2.2.1, (z1.2.2.2.2.2.1, (z1.2.2.2.2.2.2.1, ()))))))) z19).bind (fun y20 => some (y20, (decide ((y20.length : Int) ≤ 200))))))
  else (bif (z1.1 == 3) then
  (ix v12 0).bind (fun z21 => (ix v12 0).bind (fun z22 => (ix v12 1).bind (fun z23 => (ix v12 1).bind (fun z24 => (F_spec_l04Join (z1.1, (z1.2.1, (z1.2.2.1, (z1.2.2.2.1, (z1.2.2.2.2.1, (z1.2.2.2.2.2.1, (z1.2.2.2.2.2.2.1, ()))))))) z22 z24).bind (fun y25 => some (y25, (decide ((y25.length : Int) ≤ 200))))))))
  else (bif (z1.1 == 4) then
  loopF (fun f s => L_spec_l04Evalx1 v12 f s.1 s.2) ([], 0)
  else (bif (z1.1 == 5) then
  (ix v12 0).bind (fun z37 => (ix v12 0).bind (fun z38 => (F_spec_l04Sort (z1.1, (z1.2.1, (z1.2.2.1, (z1.2.2.2.1, (z1.2.2.2.2.1, (z1.2.2.2.2.2.1, (z1.2.2.2.2.2.2.1, ()))))))) z38).bind (fun y39 => some (y39, (decide ((y39.length : Int) ≤ 200))))))
  else (bif (z1.1 == 6) then
  (ix v12 0).bind (fun z40 => (ix v12 0).bind (fun z41 => (bif (decide (z1.2.2.2.2.1 < (z41.length : Int))) then
  (slx z41 0 z1.2.2.2.2.1).bind (fun z42 => some (z42, (decide ((z42.length : Int) ≤ 200))))
  else some (z41, (decide ((z41.length : Int) ≤ 200))))))
  else (bif (z1.1 == 7) then
  (ix v12 0).bind (fun z43 => (ix v12 0).bind (fun z44 => (F_spec_l04Once z44).bind (fun y45 => some (y45, (decide ((y45.length : Int) ≤ 200))))))
  else some ([], (decide ((([] : List (List Int)).length : Int) ≤ 200)))))))))))
theorem U_spec_l04Eval (a0 : List STable) (a1 : List (List (List Int))) (a2 : List SNode) (a3 : Int) : Le ((ix a2 a3).bind (fun z1 => (F_spec_l02Kids a2 a3).bind (fun y2 => joinK (loopF (fun f s => L_spec_l04Evalx0 a0 a1 a2 y2 f s.1 s.2.1 s.2.2.1 s.2.2.2) ([], false, [], 0))
  (fun s => J_spec_l04Evalx0 a0 a1 z1 s.1 s.2.1 s.2.2)))) (F_spec_l04Eval a0 a1 a2 a3) := callL_le (tt := tt) (FT := FT) (SP := SP) (j := 43) rfl (by kernel_rfl)
@[simp] noncomputable def J_spec_l04Filterx1 (v2 : Int) (f0 : ((List (List Int)) × Int) → Option (Ex (List (List Int)) (List (List Int)))) (v8 : List (List Int)) : Option (Ex (List (List Int)) (List (List Int))) :=
  f0 (v8, (IntKind.i64.wrap (v2 + 1)))
noncomputable def L_spec_l04Filterx0 (a0 : SNode) (a1 : List (List Int)) (f0 : ((List (List Int)) × Int) → Option (Ex (List (List Int)) (List (List Int)))) (v1 : List (List Int)) (v2 : Int) : Option (Ex (List (List Int)) (List (List Int))) :=
  (bif (decide (v2 < (a1.length : Int))) then
  joinK ((ix a1 v2).bind (fun z3 => (ix z3 a0.2.2.1).bind (fun z4 => (F_spec_l04Holds (a0.1, (a0.2.1, (a0.2.2.1, (a0.2.2.2.1, (a0.2.2.2.2.1, (a0.2.2.2.2.2.1, (a0.2.2.2.2.2.2.1, ()))))))) z4).bind (fun y5 => (bif y5 then
  (ix a1 v2).bind (fun z6 => (apx v1 ([z6])).bind (fun z7 => some (.go z7)))
  else some (.go v1))))))
  (fun s => J_spec_l04Filterx1 v2 f0 s)
  else some (.go v1))
@[simp] noncomputable def J_spec_l04Filterx0 (v9 : List (List Int)) : Option (List (List Int)) :=
  some v9
theorem U_spec_l04Filter (a0 : SNode) (a1 : List (List Int)) : Le (joinK (loopF (fun f s => L_spec_l04Filterx0 a0 a1 f s.1 s.2) ([], 0))
  (fun s => J_spec_l04Filterx0 s)) (F_spec_l04Filter a0 a1) := callL_le (tt := tt) (FT := FT) (SP := SP) (j := 44) rfl (by kernel_rfl)
theorem U_spec_l04Holds (a0 : SNode) (a1 : Int) : Le ((bif (a1 == (-2000000)) then
  some (a0.2.2.2.1 == 3)
  else (bif (a0.2.2.2.1 == 0) then
  some (a1 == a0.2.2.2.2.1)
  else (bif (a0.2.2.2.1 == 1) then
  some (decide (a1 < a0.2.2.2.2.1))
  else (bif (a0.2.2.2.1 == 2) then
  some (decide (a1 > a0.2.2.2.2.1))
  else some false))))) (F_spec_l04Holds a0 a1) := callL_le (tt := tt) (FT := FT) (SP := SP) (j := 45) rfl (by kernel_rfl)
noncomputable def L_spec_l04Keepx1 (a0 : SNode) (a1 : List (List Int)) (v2 : Int) (f1 : ((List Int) × Int) → Option (Ex (Ex (Ex (List (List Int)) (List (List Int))) (List (List Int))) (List Int))) (v3 : List Int) (v4 : Int) : Option (Ex (Ex (Ex (List (List Int)) (List (List Int))) (List (List Int))) (List Int)) :=
  (bif (decide (v4 < (a0.2.2.2.2.2.2.1.length : Int))) then
  (ix a1 v2).bind (fun z5 => (ix a0.2.2.2.2.2.2.1 v4).bind (fun z6 => (ix z5 z6).bind (fun z7 => (apx v3 ([z7])).bind (fun z8 => f1 (z8, (IntKind.i64.wrap (v4 + 1)))))))
  else some (.go v3))
@[simp] noncomputable def J_spec_l04Keepx2 (v1 : List (List Int)) (v9 : List Int) : Option (Ex (Ex (List (List Int)) (List (List Int))) (List (List Int))) :=
  (apx v1 ([v9])).bind (fun z10 => some (.go z10))
@[simp] noncomputable def J_spec_l04Keepx1 (v2 : Int) (f0 : ((List (List Int)) × Int) → Option (Ex (List (List Int)) (List (List Int)))) (v11 : List (List Int)) : Option (Ex (List (List Int)) (List (List Int))) :=
  f0 (v11, (IntKind.i64.wrap (v2 + 1)))
noncomputable def L_spec_l04Keepx0 (a0 : SNode) (a1 : List (List Int)) (f0 : ((List (List Int)) × Int) → Option (Ex (List (List Int)) (List (List Int)))) (v1 : List (List Int)) (v2 : Int) : Option (Ex (List (List Int)) (List (List Int))) :=
  (bif (decide (v2 < (a1.length : Int))) then
  joinK (joinK (loopF (fun f s => L_spec_l04Keepx1 a0 a1 v2 f s.1 s.2) ([], 0))
  (fun s => J_spec_l04Keepx2 v1 s))
  (fun s => J_spec_l04Keepx1 v2 f0 s)
  else some (.go v1))
@[simp] noncomputable def J_spec_l04Keepx0 (v12 : List (List Int)) : Option (List (List Int)) :=
  some v12
theorem U_spec_l04Keep (a0 : SNode) (a1 : List (List Int)) : Le (joinK (loopF (fun f s => L_spec_l04Keepx0 a0 a1 f s.1 s.2) ([], 0))
  (fun s => J_spec_l04Keepx0 s)) (F_spec_l04Keep a0 a1) := callL_le (tt := tt) (FT := FT) (SP := SP) (j := 46) rfl (by kernel_rfl)
noncomputable def L_spec_l04Joinx2 (a2 : List (List Int)) (v4 : Int) (f2 : ((List Int) × Int) → Option (Ex (Ex (Ex (Ex (List (List Int)) (List (List Int))) (List (List Int))) (List (List Int))) (List Int))) (v12 : List Int) (v13 : Int) : Option (Ex (Ex (Ex (Ex (List (List Int)) (List (List Int))) (List (List Int))) (List (List Int))) (List Int)) :=
  (ix a2 v4).bind (fun z14 => (bif (decide (v13 < (z14.length : Int))) then
  (ix a2 v4).bind (fun z15 => (ix z15 v13).bind (fun z16 => (apx v12 ([z16])).bind (fun z17 => f2 (z17, (IntKind.i64.wrap (v13 + 1))))))
  else some (.go v12)))
@[simp] noncomputable def J_spec_l04Joinx4 (v3 : List (List Int)) (v18 : List Int) : Option (Ex (Ex (Ex (List (List Int)) (List (List Int))) (List (List Int))) (List (List Int))) :=
  (apx v3 ([v18])).bind (fun z19 => some (.go z19))
@[simp] noncomputable def J_spec_l04Joinx3 (a1 : List (List Int)) (a2 : List (List Int)) (v2 : Int) (v3 : List (List Int)) (v4 : Int) (v9 : Bool) : Option (Ex (Ex (Ex (List (List Int)) (List (List Int))) (List (List Int))) (List (List Int))) :=
  (bif v9 then
  some (.go v3)
  else (ix a1 v2).bind (fun z10 => (F_spec_l01Copy z10).bind (fun y11 => joinK (loopF (fun f s => L_spec_l04Joinx2 a2 v4 f s.1 s.2) (y11, 0))
  (fun s => J_spec_l04Joinx4 v3 s))))
@[simp] noncomputable def J_spec_l04Joinx2 (v4 : Int) (f1 : ((List (List Int)) × Int) → Option (Ex (Ex (List (List Int)) (List (List Int))) (List (List Int)))) (v20 : List (List Int)) : Option (Ex (Ex (List (List Int)) (List (List Int))) (List (List Int))) :=
  f1 (v20, (IntKind.i64.wrap (v4 + 1)))
noncomputable def L_spec_l04Joinx1 (a0 : SNode) (a1 : List (List Int)) (a2 : List (List Int)) (v2 : Int) (f1 : ((List (List Int)) × Int) → Option (Ex (Ex (List (List Int)) (List (List Int))) (List (List Int)))) (v3 : List (List Int)) (v4 : Int) : Option (Ex (Ex (List (List Int)) (List (List Int))) (List (List Int))) :=
  (bif (decide (v4 < (a2.length : Int))) then
  joinK ((ix a1 v2).bind (fun z5 => (ix z5 a0.2.2.1).bind (fun z6 => joinK ((bif (z6 == (-2000000)) then
  some (.go true)
  else (ix a2 v4).bind (fun z7 => (ix z7 a0.2.2.2.2.1).bind (fun z8 => some (.go (z6 != z8))))))
  (fun s => J_spec_l04Joinx3 a1 a2 v2 v3 v4 s))))
  (fun s => J_spec_l04Joinx2 v4 f1 s)
  else some (.go v3))
@[simp] noncomputable def J_spec_l04Joinx1 (v2 : Int) (f0 : ((List (List Int)) × Int) → Option (Ex (List (List Int)) (List (List Int)))) (v21 : List (List Int)) : Option (Ex (List (List Int)) (List (List Int))) :=
  f0 (v21, (IntKind.i64.wrap (v2 + 1)))
noncomputable def L_spec_l04Joinx0 (a0 : SNode) (a1 : List (List Int)) (a2 : List (List Int)) (f0 : ((List (List Int)) × Int) → Option (Ex (List (List Int)) (List (List Int)))) (v1 : List (List Int)) (v2 : Int) : Option (Ex (List (List Int)) (List (List Int))) :=
  (bif (decide (v2 < (a1.length : Int))) then
  joinK (loopF (fun f s => L_spec_l04Joinx1 a0 a1 a2 v2 f s.1 s.2) (v1, 0))
  (fun s => J_spec_l04Joinx1 v2 f0 s)
  else some (.go v1))
@[simp] noncomputable def J_spec_l04Joinx0 (v22 : List (List Int)) : Option (List (List Int)) :=
  some v22
theorem U_spec_l04Join (a0 : SNode) (a1 : List (List Int)) (a2 : List (List Int)) : Le (joinK (loopF (fun f s => L_spec_l04Joinx0 a0 a1 a2 f s.1 s.2) ([], 0))
  (fun s => J_spec_l04Joinx0 s)) (F_spec_l04Join a0 a1 a2) := callL_le (tt := tt) (FT := FT) (SP := SP) (j := 47) rfl (by kernel_rfl)
noncomputable def L_spec_l01Copyx0 (a0 : List Int) (f0 : ((List Int) × Int) → Option (Ex (List Int) (List Int))) (v1 : List Int) (v2 : Int) : Option (Ex (List Int) (List Int)) :=
  (bif (decide (v2 < (a0.length : Int))) then
  (ix a0 v2).bind (fun z3 => (apx v1 ([z3])).bind (fun z4 => f0 (z4, (IntKind.i64.wrap (v2 + 1)))))
  else some (.go v1))
@[simp] noncomputable def J_spec_l01Copyx0 (v5 : List Int) : Option (List Int) :=
  some v5
theorem U_spec_l01Copy (a0 : List Int) : Le (joinK (loopF (fun f s => L_spec_l01Copyx0 a0 f s.1 s.2) ([], 0))
  (fun s => J_spec_l01Copyx0 s)) (F_spec_l01Copy a0) := callL_le (tt := tt) (FT := FT) (SP := SP) (j := 48) rfl (by kernel_rfl)
@[simp] noncomputable def J_spec_l04Sortx4 (a1 : List (List Int)) (v2 : Int) (v3 : List (List Int)) (v4 : Bool) (v11 : Bool) : Option (Ex (Ex (Ex (Ex (List (List Int)) (List (List Int))) (List (List Int))) ((List (List Int)) × Bool)) ((List (List Int)) × Bool)) :=
  (bif v11 then
  (ix a1 v2).bind (fun z12 => (apx v3 ([z12])).bind (fun z13 => some (.go (z13, true))))
  else some (.go (v3, v4)))
@[simp] noncomputable def J_spec_l04Sortx3 (v1 : List (List Int)) (v5 : Int) (f1 : ((List (List Int)) × Bool × Int) → Option (Ex (Ex (Ex (List (List Int)) (List (List Int))) (List (List Int))) ((List (List Int)) × Bool))) (v14 : List (List Int)) (v15 : Bool) : Option (Ex (Ex (Ex (List (List Int)) (List (List Int))) (List (List Int))) ((List (List Int)) × Bool)) :=
  (ix v1 v5).bind (fun z16 => (ix v1 v5).bind (fun z17 => (apx v14 ([z17])).bind (fun z18 => f1 (z18, v15, (IntKind.i64.wrap (v5 + 1))))))
noncomputable def L_spec_l04Sortx1 (a0 : SNode) (a1 : List (List Int)) (v1 : List (List Int)) (v2 : Int) (f1 : ((List (List Int)) × Bool × Int) → Option (Ex (Ex (Ex (List (List Int)) (List (List Int))) (List (List Int))) ((List (List Int)) × Bool))) (v3 : List (List Int)) (v4 : Bool) (v5 : Int) : Option (Ex (Ex (Ex (List (List Int)) (List (List Int))) (List (List Int))) ((List (List Int)) × Bool)) :=
  (bif (decide (v5 < (v1.length : Int))) then
  joinK (joinK ((bif (!v4) then
  (ix a1 v2).bind (fun z6 => (ix z6 a0.2.2.1).bind (fun z7 => (ix v1 v5).bind (fun z8 => (ix v1 v5).bind (fun z9 => (ix z9 a0.2.2.1).bind (fun z10 => some (.go (decide (z7 < z10))))))))
  else some (.go false)))
  (fun s => J_spec_l04Sortx4 a1 v2 v3 v4 s))
  (fun s => J_spec_l04Sortx3 v1 v5 f1 s.1 s.2)
  else some (.go (v3, v4)))
@[simp] noncomputable def J_spec_l04Sortx5 (v23 : List (List Int)) : Option (Ex (Ex (List (List Int)) (List (List Int))) (List (List Int))) :=
  some (.go v23)
@[simp] noncomputable def J_spec_l04Sortx2 (a1 : List (List Int)) (v2 : Int) (v19 : List (List Int)) (v20 : Bool) : Option (Ex (Ex (List (List Int)) (List (List Int))) (List (List Int))) :=
  joinK ((bif (!v20) then
  (ix a1 v2).bind (fun z21 => (apx v19 ([z21])).bind (fun z22 => some (.go z22)))
  else some (.go v19)))
  (fun s => J_spec_l04Sortx5 s)
@[simp] noncomputable def J_spec_l04Sortx1 (v2 : Int) (f0 : ((List (List Int)) × Int) → Option (Ex (List (List Int)) (List (List Int)))) (v24 : List (List Int)) : Option (Ex (List (List Int)) (List (List Int))) :=
  f0 (v24, (IntKind.i64.wrap (v2 + 1)))
noncomputable def L_spec_l04Sortx0 (a0 : SNode) (a1 : List (List Int)) (f0 : ((List (List Int)) × Int) → Option (Ex (List (List Int)) (List (List Int)))) (v1 : List (List Int)) (v2 : Int) : Option (Ex (List (List Int)) (List (List Int))) :=
  (bif (decide (v2 < (a1.length : Int))) then
  joinK (joinK (loopF (fun f s => L_spec_l04Sortx1 a0 a1 v1 v2 f s.1 s.2.1 s.2.2) ([], false, 0))
  (fun s => J_spec_l04Sortx2 a1 v2 s.1 s.2))
  (fun s => J_spec_l04Sortx1 v2 f0 s)
  else some (.go v1))
@[simp] noncomputable def J_spec_l04Sortx0 (v25 : List (List Int)) : Option (List (List Int)) :=
  some v25
theorem U_spec_l04Sort (a0 : SNode) (a1 : List (List Int)) : Le (joinK (loopF (fun f s => L_spec_l04Sortx0 a0 a1 f s.1 s.2) ([], 0))
  (fun s => J_spec_l04Sortx0 s)) (F_spec_l04Sort a0 a1) := callL_le (tt := tt) (FT := FT) (SP := SP) (j := 49) rfl (by kernel_rfl)
@[simp] noncomputable def J_spec_l04Oncex1 (v2 : Int) (f0 : ((List (List Int)) × Int) → Option (Ex (List (List Int)) (List (List Int)))) (v7 : List (List Int)) : Option (Ex (List (List Int)) (List (List Int))) :=
  f0 (v7, (IntKind.i64.wrap (v2 + 1)))
noncomputable def L_spec_l04Oncex0 (a0 : List (List Int)) (f0 : ((List (List Int)) × Int) → Option (Ex (List (List Int)) (List (List Int)))) (v1 : List (List Int)) (v2 : Int) : Option (Ex (List (List Int)) (List (List Int))) :=
  (bif (decide (v2 < (a0.length : Int))) then
  joinK ((ix a0 v2).bind (fun z3 => (F_spec_CountSame v1 z3).bind (fun y4 => (bif (y4 == 0) then
  (ix a0 v2).bind (fun z5 => (apx v1 ([z5])).bind (fun z6 => some (.go z6)))
  else some (.go v1)))))
  (fun s => J_spec_l04Oncex1 v2 f0 s)
  else some (.go v1))
@[simp] noncomputable def J_spec_l04Oncex0 (v8 : List (List Int)) : Option (List (List Int)) :=
  some v8
theorem U_spec_l04Once (a0 : List (List Int)) : Le (joinK (loopF (fun f s => L_spec_l04Oncex0 a0 f s.1 s.2) ([], 0))
  (fun s => J_spec_l04Oncex0 s)) (F_spec_l04Once a0) := callL_le (tt := tt) (FT := FT) (SP := SP) (j := 50) rfl (by kernel_rfl)
@[simp] noncomputable def J_spec_CountSamex1 (v2 : Int) (f0 : (Int × Int) → Option (Ex Int Int)) (v5 : Int) : Option (Ex Int Int) :=
  f0 (v5, (IntKind.i64.wrap (v2 + 1)))
noncomputable def L_spec_CountSamex0 (a0 : List (List Int)) (a1 : List Int) (f0 : (Int × Int) → Option (Ex Int Int)) (v1 : Int) (v2 : Int) : Option (Ex Int Int) :=
  (bif (decide (v2 < (a0.length : Int))) then
  joinK ((ix a0 v2).bind (fun z3 => (F_spec_l02SameInts z3 a1).bind (fun y4 => (bif y4 then
  some (.go (IntKind.i64.wrap (v1 + 1)))
  else some (.go v1)))))
  (fun s => J_spec_CountSamex1 v2 f0 s)
  else some (.go v1))
@[simp] noncomputable def J_spec_CountSamex0 (v6 : Int) : Option Int :=
  some v6
theorem U_spec_CountSame (a0 : List (List Int)) (a1 : List Int) : Le (joinK (loopF (fun f s => L_spec_CountSamex0 a0 a1 f s.1 s.2) (0, 0))
  (fun s => J_spec_CountSamex0 s)) (F_spec_CountSame a0 a1) := callL_le (tt := tt) (FT := FT) (SP := SP) (j := 51) rfl (by kernel_rfl)
noncomputable def L_spec_l02SameIntsx0 (a0 : List Int) (a1 : List Int) (f0 : (Bool × Int) → Option (Ex Bool Bool)) (v1 : Bool) (v2 : Int) : Option (Ex Bool Bool) :=
  (bif (decide (v2 < (a0.length : Int))) then
  (ix a0 v2).bind (fun z3 => (ix a1 v2).bind (fun z4 => (bif (z3 != z4) then
  some (.ret false)
  else f0 (v1, (IntKind.i64.wrap (v2 + 1))))))
  else some (.go v1))
@[simp] noncomputable def J_spec_l02SameIntsx0 (v5 : Bool) : Option Bool :=
  some true
theorem U_spec_l02SameInts (a0 : List Int) (a1 : List Int) : Le ((bif ((a0.length : Int) != (a1.length : Int)) then
  some false
  else joinK (loopF (fun f s => L_spec_l02SameIntsx0 a0 a1 f s.1 s.2) (false, 0))
  (fun s => J_spec_l02SameIntsx0 s))) (F_spec_l02SameInts a0 a1) := callL_le (tt := tt) (FT := FT) (SP := SP) (j := 52) rfl (by kernel_rfl)
noncomputable def L_spec_l04Copyx0 (a0 : List (List Int)) (f0 : ((List (List Int)) × Int) → Option (Ex (List (List Int)) (List (List Int)))) (v1 : List (List Int)) (v2 : Int) : Option (Ex (List (List Int)) (List (List Int))) :=
  (bif (decide (v2 < (a0.length : Int))) then
  (ix a0 v2).bind (fun z3 => (F_spec_l01Copy z3).bind (fun y4 => (apx v1 ([y4])).bind (fun z5 => f0 (z5, (IntKind.i64.wrap (v2 + 1))))))
  else some (.go v1))
@[simp] noncomputable def J_spec_l04Copyx0 (v6 : List (List Int)) : Option (List (List Int)) :=
  some v6
theorem U_spec_l04Copy (a0 : List (List Int)) : Le (joinK (loopF (fun f s => L_spec_l04Copyx0 a0 f s.1 s.2) ([], 0))
  (fun s => J_spec_l04Copyx0 s)) (F_spec_l04Copy a0) := callL_le (tt := tt) (FT := FT) (SP := SP) (j := 53) rfl (by kernel_rfl)
@[simp] noncomputable def J_spec_MeansSamex0 (v4 : Bool) : Option Bool :=
  some v4
theorem U_spec_MeansSame (a0 : List STable) (a1 : List (List (List Int))) (a2 : List SNode) (a3 : List SNode) : Le ((F_spec_EvalPlan a0 a1 a2).bind (fun y1 => (F_spec_EvalPlan a0 a1 a3).bind (fun y2 => joinK ((bif (y1.2 == 0) then
  (bif (y2.2 == 0) then
  (F_spec_SameRows y1.1 y2.1).bind (fun y3 => some (.go y3))
  else some (.go false))
  else some (.go false)))
  (fun s => J_spec_MeansSamex0 s)))) (F_spec_MeansSame a0 a1 a2 a3) := callL_le (tt := tt) (FT := FT) (SP := SP) (j := 54) rfl (by kernel_rfl)
noncomputable def L_spec_SameRowsx0 (a0 : List (List Int)) (a1 : List (List Int)) (f0 : (Bool × Int) → Option (Ex Bool Bool)) (v1 : Bool) (v2 : Int) : Option (Ex Bool Bool) :=
  (bif (decide (v2 < (a0.length : Int))) then
  (ix a0 v2).bind (fun z3 => (ix a1 v2).bind (fun z4 => (F_spec_l02SameInts z3 z4).bind (fun y5 => (bif (!y5) then
  some (.ret false)
  else f0 (v1, (IntKind.i64.wrap (v2 + 1)))))))
  else some (.go v1))
@[simp] noncomputable def J_spec_SameRowsx0 (v6 : Bool) : Option Bool :=
  some true
theorem U_spec_SameRows (a0 : List (List Int)) (a1 : List (List Int)) : Le ((bif ((a0.length : Int) != (a1.length : Int)) then
  some false
  else joinK (loopF (fun f s => L_spec_SameRowsx0 a0 a1 f s.1 s.2) (false, 0))
  (fun s => J_spec_SameRowsx0 s))) (F_spec_SameRows a0 a1) := callL_le (tt := tt) (FT := FT) (SP := SP) (j := 55) rfl (by kernel_rfl)
@[simp] noncomputable def J_impl_PlansMeanx3 (v1 : Bool) (v10 : Bool) : Option (Ex (Ex Bool Bool) Bool) :=
  (bif v10 then
  some (.ret (.ret false))
  else some (.go v1))
@[simp] noncomputable def J_impl_PlansMeanx2 (a0 : List STable) (a1 : List (List (List Int))) (a3 : List (List SNode)) (v1 : Bool) (v2 : Int) (z3 : SOp) (v5 : Bool) : Option (Ex (Ex Bool Bool) Bool) :=
  (bif v5 then
  some (.go v1)
  else (F_impl_EvalPlan a0 a1 z3.2.1).bind (fun y6 => (ix a3 v2).bind (fun z7 => (F_impl_EvalPlan a0 a1 z7).bind (fun y8 => joinK ((bif (y6.2 == 0) then
  (bif (y8.2 == 0) then
  (F_impl_SameRows y6.1 y8.1).bind (fun y9 => some (.go (!y9)))
  else some (.go false))
  else some (.go false)))
  (fun s => J_impl_PlansMeanx3 v1 s)))))
@[simp] noncomputable def J_impl_PlansMeanx1 (v2 : Int) (f0 : (Bool × Int) → Option (Ex Bool Bool)) (v11 : Bool) : Option (Ex Bool Bool) :=
  f0 (v11, (IntKind.i64.wrap (v2 + 1)))
noncomputable def L_impl_PlansMeanx0 (a0 : List STable) (a1 : List (List (List Int))) (a2 : List SOp) (a3 : List (List SNode)) (f0 : (Bool × Int) → Option (Ex Bool Bool)) (v1 : Bool) (v2 : Int) : Option (Ex Bool Bool) :=
  (bif (decide (v2 < (a2.length : Int))) then
  joinK ((ix a2 v2).bind (fun z3 => joinK ((bif (z3.1 != 0) then
  some (.go true)
  else (ix a3 v2).bind (fun z4 => some (.go ((z4.length : Int) == 0)))))
  (fun s => J_impl_PlansMeanx2 a0 a1 a3 v1 v2 z3 s)))
  (fun s => J_impl_PlansMeanx1 v2 f0 s)
  else some (.go v1))
@[simp] noncomputable def J_impl_PlansMeanx0 (v12 : Bool) : Option Bool :=
  some true
theorem U_impl_PlansMean (a0 : List STable) (a1 : List (List (List Int))) (a2 : List SOp) (a3 : List (List SNode)) : Le ((bif ((a2.length : Int) != (a3.length : Int)) then
  some false
  else joinK (loopF (fun f s => L_impl_PlansMeanx0 a0 a1 a2 a3 f s.1 s.2) (false, 0))
  (fun s => J_impl_PlansMeanx0 s))) (F_impl_PlansMean a0 a1 a2 a3) := callL_le (tt := tt) (FT := FT) (SP := SP) (j := 56) rfl (by kernel_rfl)
@[simp] noncomputable def J_impl_EvalPlanx0 (a0 : List STable) (a1 : List (List (List Int))) (a2 : List SNode) (v4 : Bool) : Option ((List (List Int)) × Int) :=
  (bif v4 then
  some ([], 1)
  else (F_impl_eval a0 a1 a2 0).bind (fun y5 => (bif (!y5.2) then
  some ([], 2)
  else (F_impl_ownRows y5.1).bind (fun y6 => some (y6, 0)))))
theorem U_impl_EvalPlan (a0 : List STable) (a1 : List (List (List Int))) (a2 : List SNode) : Le (joinK ((F_impl_StoreOk a0 a1).bind (fun y1 => (bif (!y1) then
  some (.go true)
  else (F_impl_TypedOk a0 a2).bind (fun y2 => (bif (!y2) then
  some (.go true)
  else (F_impl_hasSlot a2).bind (fun y3 => some (.go y3)))))))
  (fun s => J_impl_EvalPlanx0 a0 a1 a2 s)) (F_impl_EvalPlan a0 a1 a2) := callL_le (tt := tt) (FT := FT) (SP := SP) (j := 57) rfl (by kernel_rfl)
@[simp] noncomputable def J_impl_StoreOkx3 (v6 : Bool) (v7 : Int) (f1 : (Bool × Int) → Option (Ex (Ex Bool Bool) Bool)) (v11 : Bool) : Option (Ex (Ex Bool Bool) Bool) :=
  (bif v11 then
  some (.ret (.ret false))
  else f1 (v6, (IntKind.i64.wrap (v7 + 1))))
noncomputable def L_impl_StoreOkx1 (a0 : List STable) (v4 : Int) (z5 : List (List Int)) (f1 : (Bool × Int) → Option (Ex (Ex Bool Bool) Bool)) (v6 : Bool) (v7 : Int) : Option (Ex (Ex Bool Bool) Bool) :=
  (bif (decide (v7 < (z5.length : Int))) then
  (ix z5 v7).bind (fun z8 => joinK ((ix a0 v4).bind (fun z9 => (bif ((z8.length : Int) != z9.2.1) then
  some (.go true)
  else (F_slices_ContainsFunc_Lint_impl_StoreOk_1 z8).bind (fun y10 => some (.go y10)))))
  (fun s => J_impl_StoreOkx3 v6 v7 f1 s))
  else some (.go v6))
@[simp] noncomputable def J_impl_StoreOkx2 (v4 : Int) (f0 : (Bool × Int) → Option (Ex Bool Bool)) (v12 : Bool) : Option (Ex Bool Bool) :=
  f0 (v12, (IntKind.i64.wrap (v4 + 1)))
noncomputable def L_impl_StoreOkx0 (a0 : List STable) (a1 : List (List (List Int))) (f0 : (Bool × Int) → Option (Ex Bool Bool)) (v3 : Bool) (v4 : Int) : Option (Ex Bool Bool) :=
  (bif (decide (v4 < (a1.length : Int))) then
  joinK ((ix a1 v4).bind (fun z5 => (bif (decide ((z5.length : Int) > 40)) then
  some (.ret (.ret false))
  else loopF (fun f s => L_impl_StoreOkx1 a0 v4 z5 f s.1 s.2) (v3, 0))))
  (fun s => J_impl_StoreOkx2 v4 f0 s)
  else some (.go v3))
@[simp] noncomputable def J_impl_StoreOkx1 (v13 : Bool) : Option Bool :=
  some true
@[simp] noncomputable def J_impl_StoreOkx0 (a0 : List STable) (a1 : List (List (List Int))) (v2 : Bool) : Option Bool :=
  (bif v2 then
  some false
  else joinK (loopF (fun f s => L_impl_StoreOkx0 a0 a1 f s.1 s.2) (false, 0))
  (fun s => J_impl_StoreOkx1 s))
theorem U_impl_StoreOk (a0 : List STable) (a1 : List (List (List Int))) : Le (joinK ((F_impl_SchemaOk a0).bind (fun y1 => (bif (!y1) then
  some (.go true)
  else some (.go ((a1.length : Int) != (a0.length : Int))))))
  (fun s => J_impl_StoreOkx0 a0 a1 s)) (F_impl_StoreOk a0 a1) := callL_le (tt := tt) (FT := FT) (SP := SP) (j := 58) rfl (by kernel_rfl)
@[simp] noncomputable def J_impl_SchemaOkx1 (v1 : Bool) (v2 : Int) (f0 : (Bool × Int) → Option (Ex Bool Bool)) (v7 : Bool) : Option (Ex Bool Bool) :=
  (bif v7 then
  some (.ret false)
  else f0 (v1, (IntKind.i64.wrap (v2 + 1))))
noncomputable def L_impl_SchemaOkx0 (a0 : List STable) (f0 : (Bool × Int) → Option (Ex Bool Bool)) (v1 : Bool) (v2 : Int) : Option (Ex Bool Bool) :=
  (bif (decide (v2 < (a0.length : Int))) then
  (ix a0 v2).bind (fun z3 => joinK ((F_impl_WordOk z3.1).bind (fun y4 => (bif (!y4) then
  some (.go true)
  else (F_impl_in z3.2.1 1 6).bind (fun y5 => (bif (!y5) then
  some (.go true)
  else (bif (decide (v2 > 0)) then
  (ix a0 (IntKind.i64.wrap (v2 - 1))).bind (fun z6 => some (.go (!(Op.bytesLess z6.1.toList z3.1.toList))))
  else some (.go false)))))))
  (fun s => J_impl_SchemaOkx1 v1 v2 f0 s))
  else some (.go v1))
@[simp] noncomputable def J_impl_SchemaOkx0 (a0 : List STable) (v8 : Bool) : Option Bool :=
  some (decide ((a0.length : Int) ≤ 8))
theorem U_impl_SchemaOk (a0 : List STable) : Le (joinK (loopF (fun f s => L_impl_SchemaOkx0 a0 f s.1 s.2) (false, 0))
  (fun s => J_impl_SchemaOkx0 a0 s)) (F_impl_SchemaOk a0) := callL_le (tt := tt) (FT := FT) (SP := SP) (j := 59) rfl (by kernel_rfl)
@[simp] noncomputable def J_impl_WordOkx2 (v1 : Bool) (v2 : Int) (f0 : (Bool × Int) → Option (Ex Bool Bool)) (v5 : Bool) : Option (Ex Bool Bool) :=
  (bif v5 then
  some (.ret false)
  else f0 (v1, (IntKind.i64.wrap (v2 + 1))))
@[simp] noncomputable def J_impl_WordOkx1 (v1 : Bool) (v2 : Int) (z3 : Int) (f0 : (Bool × Int) → Option (Ex Bool Bool)) (v4 : Bool) : Option (Ex Bool Bool) :=
  joinK ((bif (!v4) then
  (bif (v2 == 0) then
  some (.go true)
  else (bif (decide (z3 < 48)) then
  some (.go true)
  else some (.go (decide (z3 > 57)))))
  else some (.go false)))
  (fun s => J_impl_WordOkx2 v1 v2 f0 s)
noncomputable def L_impl_WordOkx0 (a0 : ByteArray) (f0 : (Bool × Int) → Option (Ex Bool Bool)) (v1 : Bool) (v2 : Int) : Option (Ex Bool Bool) :=
  (bif (decide (v2 < (a0.size : Int))) then
  (bix a0 v2).bind (fun z3 => joinK ((bif (decide (z3 ≥ 97)) then
  some (.go (decide (z3 ≤ 122)))
  else some (.go false)))
  (fun s => J_impl_WordOkx1 v1 v2 z3 f0 s))
  else some (.go v1))
@[simp] noncomputable def J_impl_WordOkx0 (a0 : ByteArray) (v6 : Bool) : Option Bool :=
  (F_impl_in (a0.size : Int) 1 12).bind (fun y7 => some y7)
theorem U_impl_WordOk (a0 : ByteArray) : Le (joinK (loopF (fun f s => L_impl_WordOkx0 a0 f s.1 s.2) (false, 0))
  (fun s => J_impl_WordOkx0 a0 s)) (F_impl_WordOk a0) := callL_le (tt := tt) (FT := FT) (SP := SP) (j := 60) rfl (by kernel_rfl)
@[simp] noncomputable def J_impl_inx0 (v1 : Bool) : Option Bool :=
  some v1
theorem U_impl_in (a0 : Int) (a1 : Int) (a2 : Int) : Le (joinK ((bif (decide (a0 ≥ a1)) then
  some (.go (decide (a0 ≤ a2)))
  else some (.go false)))
  (fun s => J_impl_inx0 s)) (F_impl_in a0 a1 a2) := callL_le (tt := tt) (FT := FT) (SP := SP) (j := 61) rfl (by kernel_rfl)
theorem U_slices_ContainsFunc_Lint_impl_StoreOk_1 (a0 : List Int) : Le ((F_slices_IndexFunc_Lint_impl_StoreOk_1 a0).bind (fun y1 => some (decide (y1 ≥ 0)))) (F_slices_ContainsFunc_Lint_impl_StoreOk_1 a0) := callL_le (tt := tt) (FT := FT) (SP := SP) (j := 62) rfl (by kernel_rfl)
noncomputable def L_slices_IndexFunc_Lint_impl_StoreOk_1x0 (a0 : List Int) (f0 : (Int × Int) → Option (Ex Int Int)) (v1 : Int) (v2 : Int) : Option (Ex Int Int) :=
  (bif (decide (v2 < (a0.length : Int))) then
  (ix a0 v2).bind (fun z3 => (F_impl_StoreOk_1 z3).bind (fun y4 => (bif y4 then
  some (.ret v2)
  else f0 (v1, (IntKind.i64.wrap (v2 + 1))))))
  else some (.go v1))
@[simp] noncomputable def J_slices_IndexFunc_Lint_impl_StoreOk_1x0 (v5 : Int) : Option Int :=
  some (-1)
theorem U_slices_IndexFunc_Lint_impl_StoreOk_1 (a0 : List Int) : Le (joinK (loopF (fun f s => L_slices_IndexFunc_Lint_impl_StoreOk_1x0 a0 f s.1 s.2) (0, 0))
  (fun s => J_slices_IndexFunc_Lint_impl_StoreOk_1x0 s)) (F_slices_IndexFunc_Lint_impl_StoreOk_1 a0) := callL_le (tt := tt) (FT := FT) (SP := SP) (j := 63) rfl (by kernel_rfl)
theorem U_impl_StoreOk_1 (a0 : Int) : Le ((F_impl_isValue a0).bind (fun y1 => some (!y1))) (F_impl_StoreOk_1 a0) := callL_le (tt := tt) (FT := FT) (SP := SP) (j := 64) rfl (by kernel_rfl)
@[simp] noncomputable def J_impl_isValuex0 (v2 : Bool) : Option Bool :=
  some v2
theorem U_impl_isValue (a0 : Int) : Le (joinK ((F_impl_isNum a0).bind (fun y1 => (bif y1 then
  some (.go true)
  else some (.go (a0 == (-2000000))))))
  (fun s => J_impl_isValuex0 s)) (F_impl_isValue a0) := callL_le (tt := tt) (FT := FT) (SP := SP) (j := 65) rfl (by kernel_rfl)
theorem U_impl_isNum (a0 : Int) : Le ((F_impl_in a0 (-1000000) 1000000).bind (fun y1 => some y1)) (F_impl_isNum a0) := callL_le (tt := tt) (FT := FT) (SP := SP) (j := 66) rfl (by kernel_rfl)
theorem U_impl_TypedOk (a0 : List STable) (a1 : List SNode) : Le ((F_impl_WidthOf a0 a1).bind (fun y1 => some (decide (y1 ≥ 0)))) (F_impl_TypedOk a0 a1) := callL_le (tt := tt) (FT := FT) (SP := SP) (j := 67) rfl (by kernel_rfl)
@[simp] noncomputable def J_impl_WidthOfx0 (a0 : List STable) (a1 : List SNode) (v3 : Bool) : Option Int :=
  (bif v3 then
  some (-1)
  else (F_impl_width a0 a1 0).bind (fun y4 => some y4))
theorem U_impl_WidthOf (a0 : List STable) (a1 : List SNode) : Le (joinK ((F_impl_SchemaOk a0).bind (fun y1 => (bif (!y1) then
  some (.go true)
  else (F_impl_PlanOk a1).bind (fun y2 => some (.go (!y2))))))
  (fun s => J_impl_WidthOfx0 a0 a1 s)) (F_impl_WidthOf a0 a1) := callL_le (tt := tt) (FT := FT) (SP := SP) (j := 68) rfl (by kernel_rfl)
@[simp] noncomputable def J_impl_PlanOkx0 (a0 : List SNode) (v3 : Bool) : Option Bool :=
  (bif v3 then
  some false
  else (F_impl_end a0 0 1).bind (fun y4 => some (y4 == (a0.length : Int))))
theorem U_impl_PlanOk (a0 : List SNode) : Le (joinK ((F_impl_in (a0.length : Int) 1 40).bind (fun y1 => (bif (!y1) then
  some (.go true)
  else (F_slices_ContainsFunc_LimplNode_impl_PlanOk_1 a0).bind (fun y2 => some (.go y2)))))
  (fun s => J_impl_PlanOkx0 a0 s)) (F_impl_PlanOk a0) := callL_le (tt := tt) (FT := FT) (SP := SP) (j := 69) rfl (by kernel_rfl)
theorem U_slices_ContainsFunc_LimplNode_impl_PlanOk_1 (a0 : List SNode) : Le ((F_slices_IndexFunc_LimplNode_impl_PlanOk_1 a0).bind (fun y1 => some (decide (y1 ≥ 0)))) (F_slices_ContainsFunc_LimplNode_impl_PlanOk_1 a0) := callL_le (tt := tt) (FT := FT) (SP := SP) (j := 70) rfl (by kernel_rfl)
noncomputable def L_slices_IndexFunc_LimplNode_impl_PlanOk_1x0 (a0 : List SNode) (f0 : (Int × Int) → Option (Ex Int Int)) (v1 : Int) (v2 : Int) : Option (Ex Int Int) :=
  (bif (decide (v2 < (a0.length : Int))) then
  (ix a0 v2).bind (fun z3 => (F_impl_PlanOk_1 z3).bind (fun y4 => (bif y4 then
  some (.ret v2)
  else f0 (v1, (IntKind.i64.wrap (v2 + 1))))))
  else some (.go v1))
@[simp] noncomputable def J_slices_IndexFunc_LimplNode_impl_PlanOk_1x0 (v5 : Int) : Option Int :=
  some (-1)
theorem U_slices_IndexFunc_LimplNode_impl_PlanOk_1 (a0 : List SNode) : Le (joinK (loopF (fun f s => L_slices_IndexFunc_LimplNode_impl_PlanOk_1x0 a0 f s.1 s.2) (0, 0))
  (fun s => J_slices_IndexFunc_LimplNode_impl_PlanOk_1x0 s)) (F_slices_IndexFunc_LimplNode_impl_PlanOk_1 a0) := callL_le (tt := tt) (FT := FT) (SP := SP) (j := 71) rfl (by kernel_rfl)
theorem U_impl_PlanOk_1 (a0 : SNode) : Le ((F_impl_NodeOk (a0.1, (a0.2.1, (a0.2.2.1, (a0.2.2.2.1, (a0.2.2.2.2.1, (a0.2.2.2.2.2.1, (a0.2.2.2.2.2.2.1, ())))))))).bind (fun y1 => some (!y1))) (F_impl_PlanOk_1 a0) := callL_le (tt := tt) (FT := FT) (SP := SP) (j := 72) rfl (by kernel_rfl)
@[simp] noncomputable def J_impl_NodeOkx2 (a0 : SNode) (v7 : Bool) : Option (Ex Bool (Int × ByteArray × Int × Int × Int × Bool × (List Int) × Bool)) :=
  some (.go (0, a0.2.1, 0, 0, 0, false, a0.2.2.2.2.2.2.1, v7))
@[simp] noncomputable def J_impl_NodeOkx1 (a0 : SNode) (v4 : Bool) : Option (Ex Bool (Int × ByteArray × Int × Int × Int × Bool × (List Int) × Bool)) :=
  joinK ((bif (a0.2.2.2.1 == 3) then
  (bif v4 then
  (bif (a0.2.2.2.2.1 == 0) then
  some (.go (!a0.2.2.2.2.2.1))
  else some (.go false))
  else some (.go false))
  else (bif a0.2.2.2.2.2.1 then
  (bif v4 then
  (F_impl_isSlot a0.2.2.2.2.1).bind (fun y5 => some (.go y5))
  else some (.go false))
  else (bif v4 then
  (F_impl_isNum a0.2.2.2.2.1).bind (fun y6 => some (.go y6))
  else some (.go false)))))
  (fun s => J_impl_NodeOkx2 a0 s)
@[simp] noncomputable def J_impl_NodeOkx3 (a0 : SNode) (v10 : Bool) : Option (Ex Bool (Int × ByteArray × Int × Int × Int × Bool × (List Int) × Bool)) :=
  some (.go (0, a0.2.1, a0.2.2.1, a0.2.2.2.1, a0.2.2.2.2.1, a0.2.2.2.2.2.1, [], v10))
@[simp] noncomputable def J_impl_NodeOkx4 (a0 : SNode) (v13 : Bool) : Option (Ex Bool (Int × ByteArray × Int × Int × Int × Bool × (List Int) × Bool)) :=
  some (.go (0, a0.2.1, 0, a0.2.2.2.1, 0, a0.2.2.2.2.2.1, a0.2.2.2.2.2.2.1, v13))
@[simp] noncomputable def J_impl_NodeOkx5 (a0 : SNode) (v17 : Bool) : Option (Ex Bool (Int × ByteArray × Int × Int × Int × Bool × (List Int) × Bool)) :=
  some (.go (0, a0.2.1, a0.2.2.1, a0.2.2.2.1, 0, false, a0.2.2.2.2.2.2.1, v17))
@[simp] noncomputable def J_impl_NodeOkx6 (a0 : SNode) (v18 : Bool) : Option (Ex Bool (Int × ByteArray × Int × Int × Int × Bool × (List Int) × Bool)) :=
  (bif v18 then
  some (.go (0, a0.2.1, a0.2.2.1, a0.2.2.2.1, a0.2.2.2.2.1, a0.2.2.2.2.2.1, a0.2.2.2.2.2.2.1, true))
  else some (.go (0, a0.2.1, a0.2.2.1, a0.2.2.2.1, a0.2.2.2.2.1, a0.2.2.2.2.2.1, a0.2.2.2.2.2.2.1, false)))
@[simp] noncomputable def J_impl_NodeOkx7 (v28 : Bool) : Option Bool :=
  some v28
@[simp] noncomputable def J_impl_NodeOkx0 (v19 : Int) (v20 : ByteArray) (v21 : Int) (v22 : Int) (v23 : Int) (v24 : Bool) (v25 : List Int) (v26 : Bool) : Option Bool :=
  joinK ((bif v26 then
  (F_impl_sameNode (v19, (v20, (v21, (v22, (v23, (v24, (v25, ()))))))) (0, (ByteArray.empty, (0, (0, (0, (false, ([], ())))))))).bind (fun y27 => some (.go y27))
  else some (.go false)))
  (fun s => J_impl_NodeOkx7 s)
theorem U_impl_NodeOk (a0 : SNode) : Le (joinK ((bif (a0.1 == 0) then
  (F_impl_WordOk a0.2.1).bind (fun y1 => some (.go (0, ByteArray.empty, a0.2.2.1, a0.2.2.2.1, a0.2.2.2.2.1, a0.2.2.2.2.2.1, a0.2.2.2.2.2.2.1, y1)))
  else (bif (a0.1 == 1) then
  joinK ((F_impl_isCol a0.2.2.1).bind (fun y2 => (bif y2 then
  (F_impl_in a0.2.2.2.1 0 3).bind (fun y3 => some (.go y3))
  else some (.go false))))
  (fun s => J_impl_NodeOkx1 a0 s)
  else (bif (a0.1 == 2) then
  joinK ((F_impl_in (a0.2.2.2.2.2.2.1.length : Int) 1 6).bind (fun y8 => (bif y8 then
  (F_slices_ContainsFunc_Lint_impl_NodeOk_1 a0.2.2.2.2.2.2.1).bind (fun y9 => some (.go (!y9)))
  else some (.go false))))
  (fun s => J_impl_NodeOkx3 a0 s)
  else (bif (a0.1 == 3) then
  joinK ((F_impl_isCol a0.2.2.1).bind (fun y11 => (bif y11 then
  (F_impl_isCol a0.2.2.2.2.1).bind (fun y12 => some (.go y12))
  else some (.go false))))
  (fun s => J_impl_NodeOkx4 a0 s)
  else (bif (a0.1 == 5) then
  (F_impl_isCol a0.2.2.1).bind (fun y14 => some (.go (0, a0.2.1, 0, a0.2.2.2.1, a0.2.2.2.2.1, a0.2.2.2.2.2.1, a0.2.2.2.2.2.2.1, y14)))
  else (bif (a0.1 == 6) then
  joinK ((F_impl_in a0.2.2.2.2.1 0 1000000).bind (fun y15 => (bif y15 then
  (bif (!a0.2.2.2.2.2.1) then
  some (.go true)
  else (F_impl_isSlot a0.2.2.2.2.1).bind (fun y16 => some (.go y16)))
  else some (.go false))))
  (fun s => J_impl_NodeOkx5 a0 s)
  else joinK ((bif (a0.1 == 4) then
  some (.go true)
  else some (.go (a0.1 == 7))))
  (fun s => J_impl_NodeOkx6 a0 s))))))))
  (fun s => J_impl_NodeOkx0 s.1 s.2.1 s.2.2.1 s.2.2.2.1 s.2.2.2.2.1 s.2.2.2.2.2.1 s.2.2.2.2.2.2.1 s.2.2.2.2.2.2.2)) (F_impl_NodeOk a0) := callL_le (tt := tt) (FT := FT) (SP := SP) (j := 73) rfl (by kernel_rfl)
theorem U_impl_isCol (a0 : Int) : Le ((F_impl_in a0 0 63).bind (fun y1 => some y1)) (F_impl_isCol a0) := callL_le (tt := tt) (FT := FT) (SP := SP) (j := 74) rfl (by kernel_rfl)
theorem U_impl_isSlot (a0 : Int) : Le ((F_impl_in a0 0 39).bind (fun y1 => some y1)) (F_impl_isSlot a0) := callL_le (tt := tt) (FT := FT) (SP := SP) (j := 75) rfl (by kernel_rfl)
theorem U_slices_ContainsFunc_Lint_impl_NodeOk_1 (a0 : List Int) : Le ((F_slices_IndexFunc_Lint_impl_NodeOk_1 a0).bind (fun y1 => some (decide (y1 ≥ 0)))) (F_slices_ContainsFunc_Lint_impl_NodeOk_1 a0) := callL_le (tt := tt) (FT := FT) (SP := SP) (j := 76) rfl (by kernel_rfl)
noncomputable def L_slices_IndexFunc_Lint_impl_NodeOk_1x0 (a0 : List Int) (f0 : (Int × Int) → Option (Ex Int Int)) (v1 : Int) (v2 : Int) : Option (Ex Int Int) :=
  (bif (decide (v2 < (a0.length : Int))) then
  (ix a0 v2).bind (fun z3 => (F_impl_NodeOk_1 z3).bind (fun y4 => (bif y4 then
  some (.ret v2)
  else f0 (v1, (IntKind.i64.wrap (v2 + 1))))))
  else some (.go v1))
@[simp] noncomputable def J_slices_IndexFunc_Lint_impl_NodeOk_1x0 (v5 : Int) : Option Int :=
  some (-1)
theorem U_slices_IndexFunc_Lint_impl_NodeOk_1 (a0 : List Int) : Le (joinK (loopF (fun f s => L_slices_IndexFunc_Lint_impl_NodeOk_1x0 a0 f s.1 s.2) (0, 0))
  (fun s => J_slices_IndexFunc_Lint_impl_NodeOk_1x0 s)) (F_slices_IndexFunc_Lint_impl_NodeOk_1 a0) := callL_le (tt := tt) (FT := FT) (SP := SP) (j := 77) rfl (by kernel_rfl)
theorem U_impl_NodeOk_1 (a0 : Int) : Le ((F_impl_isCol a0).bind (fun y1 => some (!y1))) (F_impl_NodeOk_1 a0) := callL_le (tt := tt) (FT := FT) (SP := SP) (j := 78) rfl (by kernel_rfl)
@[simp] noncomputable def J_impl_sameNodex0 (v2 : Bool) : Option Bool :=
  some v2
theorem U_impl_sameNode (a0 : SNode) (a1 : SNode) : Le (joinK ((bif (a0.1 == a1.1) then
  (bif (a0.2.1.toList == a1.2.1.toList) then
  (bif (a0.2.2.1 == a1.2.2.1) then
  (bif (a0.2.2.2.1 == a1.2.2.2.1) then
  (bif (a0.2.2.2.2.1 == a1.2.2.2.2.1) then
  (bif (a0.2.2.2.2.2.1 == a1.2.2.2.2.2.1) then
  (F_slices_Equal_Lint a0.2.2.2.2.2.2.1 a1.2.2.2.2.2.2.1).bind (fun y1 => some (.go y1))
  else some (.go false))
  else some (.go false))
  else some (.go false))
  else some (.go false))
  else some (.go false))
  else some (.go false)))
  (fun s => J_impl_sameNodex0 s)) (F_impl_sameNode a0 a1) := callL_le (tt := tt) (FT := FT) (SP := SP) (j := 79) rfl (by kernel_rfl)
noncomputable def L_slices_Equal_Lintx0 (a0 : List Int) (a1 : List Int) (f0 : (Bool × Int) → Option (Ex Bool Bool)) (v1 : Bool) (v2 : Int) : Option (Ex Bool Bool) :=
  (bif (decide (v2 < (a0.length : Int))) then
  (ix a0 v2).bind (fun z3 => (ix a1 v2).bind (fun z4 => (bif (z3 != z4) then
  some (.ret false)
  else f0 (v1, (IntKind.i64.wrap (v2 + 1))))))
  else some (.go v1))
@[simp] noncomputable def J_slices_Equal_Lintx0 (v5 : Bool) : Option Bool :=
  some true
theorem U_slices_Equal_Lint (a0 : List Int) (a1 : List Int) : Le ((bif ((a0.length : Int) != (a1.length : Int)) then
  some false
  else joinK (loopF (fun f s => L_slices_Equal_Lintx0 a0 a1 f s.1 s.2) (false, 0))
  (fun s => J_slices_Equal_Lintx0 s))) (F_slices_Equal_Lint a0 a1) := callL_le (tt := tt) (FT := FT) (SP := SP) (j := 80) rfl (by kernel_rfl)
noncomputable def L_impl_endx0 (a0 : List SNode) (a2 : Int) (y3 : Int) (f0 : (Int × Int × Int) → Option (Ex Int (Int × Int))) (v4 : Int) (v5 : Int) (v6 : Int) : Option (Ex Int (Int × Int)) :=
  (bif (decide (v6 < y3)) then
  (F_impl_end a0 v5 (IntKind.i64.wrap (a2 + 1))).bind (fun y7 => (bif (decide (y7 < 0)) then
  some (.ret (-1))
  else f0 (v4, y7, (IntKind.i64.wrap (v6 + 1)))))
  else some (.go (v4, v5)))
@[simp] noncomputable def J_impl_endx1 (v8 : Int) (v9 : Int) : Option Int :=
  some v9
@[simp] noncomputable def J_impl_endx0 (a0 : List SNode) (a1 : Int) (a2 : Int) (v1 : Bool) : Option Int :=
  (bif v1 then
  some (-1)
  else joinK ((ix a0 a1).bind (fun z2 => (F_impl_ArityOf z2.1).bind (fun y3 => loopF (fun f s => L_impl_endx0 a0 a2 y3 f s.1 s.2.1 s.2.2) (0, (IntKind.i64.wrap (a1 + 1)), 0))))
  (fun s => J_impl_endx1 s.1 s.2))
theorem U_impl_end (a0 : List SNode) (a1 : Int) (a2 : Int) : Le (joinK ((bif (decide (a1 ≥ (a0.length : Int))) then
  some (.go true)
  else some (.go (decide (a2 > 10)))))
  (fun s => J_impl_endx0 a0 a1 a2 s)) (F_impl_end a0 a1 a2) := callL_le (tt := tt) (FT := FT) (SP := SP) (j := 81) rfl (by kernel_rfl)
@[simp] noncomputable def J_impl_ArityOfx1 (v2 : Bool) : Option Int :=
  (bif v2 then
  some 1
  else some (-1))
@[simp] noncomputable def J_impl_ArityOfx0 (a0 : Int) (v1 : Bool) : Option Int :=
  (bif v1 then
  some 2
  else joinK ((bif (a0 == 1) then
  some (.go true)
  else (bif (a0 == 2) then
  some (.go true)
  else (bif (a0 == 5) then
  some (.go true)
  else (bif (a0 == 6) then
  some (.go true)
  else some (.go (a0 == 7)))))))
  (fun s => J_impl_ArityOfx1 s))
theorem U_impl_ArityOf (a0 : Int) : Le ((bif (a0 == 0) then
  some 0
  else joinK ((bif (a0 == 3) then
  some (.go true)
  else some (.go (a0 == 4))))
  (fun s => J_impl_ArityOfx0 a0 s))) (F_impl_ArityOf a0) := callL_le (tt := tt) (FT := FT) (SP := SP) (j := 82) rfl (by kernel_rfl)
noncomputable def L_impl_widthx0 (a0 : List STable) (a1 : List SNode) (y1 : List Int) (f0 : (Int × (List Int) × Int) → Option (Ex Int (Int × (List Int)))) (v2 : Int) (v3 : List Int) (v4 : Int) : Option (Ex Int (Int × (List Int))) :=
  (bif (decide (v4 < (y1.length : Int))) then
  (ix y1 v4).bind (fun z5 => (F_impl_width a0 a1 z5).bind (fun y6 => (bif (decide (y6 < 0)) then
  some (.ret (-1))
  else (apx v3 ([y6])).bind (fun z7 => f0 (v2, z7, (IntKind.i64.wrap (v4 + 1)))))))
  else some (.go (v2, v3)))
@[simp] noncomputable def J_impl_widthx3 (v9 : List Int) (v21 : Bool) : Option (Ex Int Int) :=
  (bif v21 then
  some (.ret (-1))
  else (ix v9 0).bind (fun z22 => (ix v9 1).bind (fun z23 => some (.ret (IntKind.i64.wrap (z22 + z23))))))
@[simp] noncomputable def J_impl_widthx2 (v8 : Int) (v9 : List Int) (z10 : SNode) (v13 : Bool) : Option (Ex Int Int) :=
  (bif v13 then
  (ix v9 0).bind (fun z14 => (bif (decide (z10.2.2.1 ≥ z14)) then
  some (.ret (-1))
  else some (.go v8)))
  else (bif (z10.1 == 2) then
  (F_slices_Max_Lint z10.2.2.2.2.2.2.1).bind (fun y15 => (ix v9 0).bind (fun z16 => (bif (decide (y15 ≥ z16)) then
  some (.ret (-1))
  else some (.ret (z10.2.2.2.2.2.2.1.length : Int)))))
  else (bif (z10.1 == 3) then
  joinK ((ix v9 0).bind (fun z17 => (bif (decide (z10.2.2.1 ≥ z17)) then
  some (.go true)
  else (ix v9 1).bind (fun z18 => (bif (decide (z10.2.2.2.2.1 ≥ z18)) then
  some (.go true)
  else (ix v9 0).bind (fun z19 => (ix v9 1).bind (fun z20 => some (.go (decide ((IntKind.i64.wrap (z19 + z20)) > 64))))))))))
  (fun s => J_impl_widthx3 v9 s)
  else (bif (z10.1 == 4) then
  (ix v9 0).bind (fun z24 => (ix v9 1).bind (fun z25 => (bif (z24 != z25) then
  some (.ret (-1))
  else some (.go v8))))
  else some (.go v8)))))
@[simp] noncomputable def J_impl_widthx1 (v9 : List Int) (v26 : Int) : Option Int :=
  (ix v9 0).bind (fun z27 => some z27)
@[simp] noncomputable def J_impl_widthx0 (a0 : List STable) (a1 : List SNode) (a2 : Int) (v8 : Int) (v9 : List Int) : Option Int :=
  (ix a1 a2).bind (fun z10 => joinK ((bif (z10.1 == 0) then
  (F_impl_tableAt a0 z10.2.1).bind (fun y11 => (bif (decide (y11 < 0)) then
  some (.ret (-1))
  else (ix a0 y11).bind (fun z12 => some (.ret z12.2.1))))
  else joinK ((bif (z10.1 == 1) then
  some (.go true)
  else some (.go (z10.1 == 5))))
  (fun s => J_impl_widthx2 v8 v9 z10 s)))
  (fun s => J_impl_widthx1 v9 s))
theorem U_impl_width (a0 : List STable) (a1 : List SNode) (a2 : Int) : Le (joinK ((F_impl_children a1 a2).bind (fun y1 => loopF (fun f s => L_impl_widthx0 a0 a1 y1 f s.1 s.2.1 s.2.2) (0, [], 0)))
  (fun s => J_impl_widthx0 a0 a1 a2 s.1 s.2)) (F_impl_width a0 a1 a2) := callL_le (tt := tt) (FT := FT) (SP := SP) (j := 83) rfl (by kernel_rfl)
noncomputable def L_impl_childrenx0 (a0 : List SNode) (y2 : Int) (f0 : ((List Int) × Int × Int) → Option (Ex (List Int) (List Int))) (v3 : List Int) (v4 : Int) (v5 : Int) : Option (Ex (List Int) (List Int)) :=
  (bif (decide (v5 < y2)) then
  (apx v3 ([v4])).bind (fun z6 => (F_impl_end a0 v4 1).bind (fun y7 => f0 (z6, y7, (IntKind.i64.wrap (v5 + 1)))))
  else some (.go v3))
@[simp] noncomputable def J_impl_childrenx0 (v8 : List Int) : Option (List Int) :=
  some v8
theorem U_impl_children (a0 : List SNode) (a1 : Int) : Le (joinK ((ix a0 a1).bind (fun z1 => (F_impl_ArityOf z1.1).bind (fun y2 => loopF (fun f s => L_impl_childrenx0 a0 y2 f s.1 s.2.1 s.2.2) ([], (IntKind.i64.wrap (a1 + 1)), 0))))
  (fun s => J_impl_childrenx0 s)) (F_impl_children a0 a1) := callL_le (tt := tt) (FT := FT) (SP := SP) (j := 84) rfl (by kernel_rfl)
theorem U_impl_tableAt (a0 : List STable) (a1 : ByteArray) : Le ((F_slices_IndexFunc_LimplTable_impl_tableAt_1 a0 a1).bind (fun y1 => some y1.1)) (F_impl_tableAt a0 a1) := callL_le (tt := tt) (FT := FT) (SP := SP) (j := 85) rfl (by kernel_rfl)
noncomputable def L_slices_IndexFunc_LimplTable_impl_tableAt_1x0 (a0 : List STable) (f0 : (Int × Int × ByteArray) → Option (Ex (Int × ByteArray) (Int × ByteArray))) (v1 : Int) (v2 : Int) (v3 : ByteArray) : Option (Ex (Int × ByteArray) (Int × ByteArray)) :=
  (bif (decide (v2 < (a0.length : Int))) then
  (ix a0 v2).bind (fun z4 => (F_impl_tableAt_1 z4 v3).bind (fun y5 => (bif y5.1 then
  some (.ret (v2, y5.2))
  else f0 (v1, (IntKind.i64.wrap (v2 + 1)), y5.2))))
  else some (.go (v1, v3)))
@[simp] noncomputable def J_slices_IndexFunc_LimplTable_impl_tableAt_1x0 (v6 : Int) (v7 : ByteArray) : Option (Int × ByteArray) :=
  some ((-1), v7)
theorem U_slices_IndexFunc_LimplTable_impl_tableAt_1 (a0 : List STable) (a1x0x0 : ByteArray) : Le (joinK (loopF (fun f s => L_slices_IndexFunc_LimplTable_impl_tableAt_1x0 a0 f s.1 s.2.1 s.2.2) (0, 0, a1x0x0))
  (fun s => J_slices_IndexFunc_LimplTable_impl_tableAt_1x0 s.1 s.2)) (F_slices_IndexFunc_LimplTable_impl_tableAt_1 a0 a1x0x0) := callL_le (tt := tt) (FT := FT) (SP := SP) (j := 86) rfl (by kernel_rfl)
theorem U_impl_tableAt_1 (a0 : STable) (c0x0 : ByteArray) : Le (some ((a0.1.toList == c0x0.toList), c0x0)) (F_impl_tableAt_1 a0 c0x0) := callL_le (tt := tt) (FT := FT) (SP := SP) (j := 87) rfl (by kernel_rfl)
noncomputable def L_slices_Max_Lintx0 (a0 : List Int) (f0 : (Int × Int) → Option (Ex Int Int)) (v2 : Int) (v3 : Int) : Option (Ex Int Int) :=
  (bif (decide (v3 < (a0.length : Int))) then
  (ix a0 v3).bind (fun z4 => f0 ((mmx true v2 z4), (IntKind.i64.wrap (v3 + 1))))
  else some (.go v2))
@[simp] noncomputable def J_slices_Max_Lintx1 (v5 : Int) : Option Int :=
  some v5
@[simp] noncomputable def J_slices_Max_Lintx0 (a0 : List Int) : Option Int :=
  (ix a0 0).bind (fun z1 => joinK (loopF (fun f s => L_slices_Max_Lintx0 a0 f s.1 s.2) (z1, 1))
  (fun s => J_slices_Max_Lintx1 s))
theorem U_slices_Max_Lint (a0 : List Int) : Le (joinK ((bif (decide ((a0.length : Int) < 1)) then
  none
  else some (.go ())))
  (fun _ => J_slices_Max_Lintx0 a0)) (F_slices_Max_Lint a0) := callL_le (tt := tt) (FT := FT) (SP := SP) (j := 88) rfl (by kernel_rfl)
theorem U_impl_hasSlot (a0 : List SNode) : Le ((F_slices_ContainsFunc_LimplNode_impl_hasSlot_1 a0).bind (fun y1 => some y1)) (F_impl_hasSlot a0) := callL_le (tt := tt) (FT := FT) (SP := SP) (j := 89) rfl (by kernel_rfl)
theorem U_slices_ContainsFunc_LimplNode_impl_hasSlot_1 (a0 : List SNode) : Le ((F_slices_IndexFunc_LimplNode_impl_hasSlot_1 a0).bind (fun y1 => some (decide (y1 ≥ 0)))) (F_slices_ContainsFunc_LimplNode_impl_hasSlot_1 a0) := callL_le (tt := tt) (FT := FT) (SP := SP) (j := 90) rfl (by kernel_rfl)
noncomputable def L_slices_IndexFunc_LimplNode_impl_hasSlot_1x0 (a0 : List SNode) (f0 : (Int × Int) → Option (Ex Int Int)) (v1 : Int) (v2 : Int) : Option (Ex Int Int) :=
  (bif (decide (v2 < (a0.length : Int))) then
  (ix a0 v2).bind (fun z3 => (F_impl_hasSlot_1 z3).bind (fun y4 => (bif y4 then
  some (.ret v2)
  else f0 (v1, (IntKind.i64.wrap (v2 + 1))))))
  else some (.go v1))
@[simp] noncomputable def J_slices_IndexFunc_LimplNode_impl_hasSlot_1x0 (v5 : Int) : Option Int :=
  some (-1)
theorem U_slices_IndexFunc_LimplNode_impl_hasSlot_1 (a0 : List SNode) : Le (joinK (loopF (fun f s => L_slices_IndexFunc_LimplNode_impl_hasSlot_1x0 a0 f s.1 s.2) (0, 0))
  (fun s => J_slices_IndexFunc_LimplNode_impl_hasSlot_1x0 s)) (F_slices_IndexFunc_LimplNode_impl_hasSlot_1 a0) := callL_le (tt := tt) (FT := FT) (SP := SP) (j := 91) rfl (by kernel_rfl)
theorem U_impl_hasSlot_1 (a0 : SNode) : Le (some a0.2.2.2.2.2.1) (F_impl_hasSlot_1 a0) := callL_le (tt := tt) (FT := FT) (SP := SP) (j := 92) rfl (by kernel_rfl)
noncomputable def L_impl_evalx0 (a0 : List STable) (a1 : List (List (List Int))) (a2 : List SNode) (y1 : List Int) (f0 : ((List (List Int)) × Bool × (List (List (List Int))) × Int) → Option (Ex ((List (List Int)) × Bool) ((List (List Int)) × Bool × (List (List (List Int)))))) (v2 : List (List Int)) (v3 : Bool) (v4 : List (List (List Int))) (v5 : Int) : Option (Ex ((List (List Int)) × Bool) ((List (List Int)) × Bool × (List (List (List Int))))) :=
  (bif (decide (v5 < (y1.length : Int))) then
  (ix y1 v5).bind (fun z6 => (F_impl_eval a0 a1 a2 z6).bind (fun y7 => (bif (!y7.2) then
  some (.ret ([], false))
  else (apx v4 ([y7.1])).bind (fun z8 => f0 (v2, v3, z8, (IntKind.i64.wrap (v5 + 1)))))))
  else some (.go (v2, v3, v4)))
@[simp] noncomputable def J_impl_evalx1 (v18 : Int) (f1 : ((List (List Int)) × Int) → Option ((List (List Int)) × Bool)) (v23 : List (List Int)) : Option ((List (List Int)) × Bool) :=
  f1 (v23, (IntKind.i64.wrap (v18 + 1)))
noncomputable def L_impl_evalx1 (z12 : SNode) (z16 : List (List Int)) (f1 : ((List (List Int)) × Int) → Option ((List (List Int)) × Bool)) (v17 : List (List Int)) (v18 : Int) : Option ((List (List Int)) × Bool) :=
  (bif (decide (v18 < (z16.length : Int))) then
  joinK ((ix z16 v18).bind (fun z19 => (ix z19 z12.2.2.1).bind (fun z20 => (F_impl_Node_keeps (z12.1, (z12.2.1, (z12.2.2.1, (z12.2.2.2.1, (z12.2.2.2.2.1, (z12.2.2.2.2.2.1, (z12.2.2.2.2.2.2.1, ()))))))) z20).bind (fun y21 => (bif y21 then
  (apx v17 ([z19])).bind (fun z22 => some (.go z22))
  else some (.go v17))))))
  (fun s => J_impl_evalx1 v18 f1 s)
  else some (v17, (decide ((v17.length : Int) ≤ 200))))
noncomputable def L_impl_evalx3 (z12 : SNode) (z28 : List Int) (f3 : ((List Int) × Int) → Option (Ex (Ex ((List (List Int)) × Bool) (List (List Int))) (List Int))) (v29 : List Int) (v30 : Int) : Option (Ex (Ex ((List (List Int)) × Bool) (List (List Int))) (List Int)) :=
  (bif (decide (v30 < (z12.2.2.2.2.2.2.1.length : Int))) then
  (ix z12.2.2.2.2.2.2.1 v30).bind (fun z31 => (ix z28 z31).bind (fun z32 => (apx v29 ([z32])).bind (fun z33 => f3 (z33, (IntKind.i64.wrap (v30 + 1))))))
  else some (.go v29))
@[simp] noncomputable def J_impl_evalx3 (v26 : List (List Int)) (v34 : List Int) : Option (Ex ((List (List Int)) × Bool) (List (List Int))) :=
  (apx v26 ([v34])).bind (fun z35 => some (.go z35))
@[simp] noncomputable def J_impl_evalx2 (v27 : Int) (f2 : ((List (List Int)) × Int) → Option ((List (List Int)) × Bool)) (v36 : List (List Int)) : Option ((List (List Int)) × Bool) :=
  f2 (v36, (IntKind.i64.wrap (v27 + 1)))
noncomputable def L_impl_evalx2 (z12 : SNode) (z25 : List (List Int)) (f2 : ((List (List Int)) × Int) → Option ((List (List Int)) × Bool)) (v26 : List (List Int)) (v27 : Int) : Option ((List (List Int)) × Bool) :=
  (bif (decide (v27 < (z25.length : Int))) then
  joinK ((ix z25 v27).bind (fun z28 => joinK (loopF (fun f s => L_impl_evalx3 z12 z28 f s.1 s.2) ([], 0))
  (fun s => J_impl_evalx3 v26 s)))
  (fun s => J_impl_evalx2 v27 f2 s)
  else some (v26, (decide ((v26.length : Int) ≤ 200))))
@[simp] noncomputable def J_impl_evalx6 (z41 : List Int) (v44 : List (List Int)) (z46 : List Int) (v50 : Bool) : Option (Ex (Ex ((List (List Int)) × Bool) (List (List Int))) (List (List Int))) :=
  (bif v50 then
  (F_slices_Concat_Lint ([z41, z46])).bind (fun y51 => (apx v44 ([y51])).bind (fun z52 => some (.go z52)))
  else some (.go v44))
@[simp] noncomputable def J_impl_evalx5 (v45 : Int) (f5 : ((List (List Int)) × Int) → Option (Ex ((List (List Int)) × Bool) (List (List Int)))) (v53 : List (List Int)) : Option (Ex ((List (List Int)) × Bool) (List (List Int))) :=
  f5 (v53, (IntKind.i64.wrap (v45 + 1)))
noncomputable def L_impl_evalx5 (z12 : SNode) (z41 : List Int) (z43 : List (List Int)) (f5 : ((List (List Int)) × Int) → Option (Ex ((List (List Int)) × Bool) (List (List Int)))) (v44 : List (List Int)) (v45 : Int) : Option (Ex ((List (List Int)) × Bool) (List (List Int))) :=
  (bif (decide (v45 < (z43.length : Int))) then
  joinK ((ix z43 v45).bind (fun z46 => joinK ((ix z41 z12.2.2.1).bind (fun z47 => (ix z46 z12.2.2.2.2.1).bind (fun z48 => (bif (z47 == z48) then
  (ix z41 z12.2.2.1).bind (fun z49 => some (.go (z49 != (-2000000))))
  else some (.go false)))))
  (fun s => J_impl_evalx6 z41 v44 z46 s)))
  (fun s => J_impl_evalx5 v45 f5 s)
  else some (.go v44))
@[simp] noncomputable def J_impl_evalx4 (v40 : Int) (f4 : ((List (List Int)) × Int) → Option ((List (List Int)) × Bool)) (v54 : List (List Int)) : Option ((List (List Int)) × Bool) :=
  f4 (v54, (IntKind.i64.wrap (v40 + 1)))
noncomputable def L_impl_evalx4 (v11 : List (List (List Int))) (z12 : SNode) (z38 : List (List Int)) (f4 : ((List (List Int)) × Int) → Option ((List (List Int)) × Bool)) (v39 : List (List Int)) (v40 : Int) : Option ((List (List Int)) × Bool) :=
  (bif (decide (v40 < (z38.length : Int))) then
  joinK ((ix z38 v40).bind (fun z41 => (ix v11 1).bind (fun z42 => (ix v11 1).bind (fun z43 => loopF (fun f s => L_impl_evalx5 z12 z41 z43 f s.1 s.2) (v39, 0)))))
  (fun s => J_impl_evalx4 v40 f4 s)
  else some (v39, (decide ((v39.length : Int) ≤ 200))))
@[simp] noncomputable def J_impl_evalx7 (v72 : Int) (f6 : ((List (List Int)) × Int) → Option ((List (List Int)) × Bool)) (v76 : List (List Int)) : Option ((List (List Int)) × Bool) :=
  f6 (v76, (IntKind.i64.wrap (v72 + 1)))
noncomputable def L_impl_evalx6 (z70 : List (List Int)) (f6 : ((List (List Int)) × Int) → Option ((List (List Int)) × Bool)) (v71 : List (List Int)) (v72 : Int) : Option ((List (List Int)) × Bool) :=
  (bif (decide (v72 < (z70.length : Int))) then
  joinK ((ix z70 v72).bind (fun z73 => (F_impl_CountSame v71 z73).bind (fun y74 => (bif (y74 == 0) then
  (apx v71 ([z73])).bind (fun z75 => some (.go z75))
  else some (.go v71)))))
  (fun s => J_impl_evalx7 v72 f6 s)
  else some (v71, (decide ((v71.length : Int) ≤ 200))))
@[simp] noncomputable def J_impl_evalx0 (a0 : List STable) (a1 : List (List (List Int))) (a2 : List SNode) (a3 : Int) (v9 : List (List Int)) (v10 : Bool) (v11 : List (List (List Int))) : Option ((List (List Int)) × Bool) :=
  (ix a2 a3).bind (fun z12 => (bif (z12.1 == 0) then
  (F_impl_tableAt a0 z12.2.1).bind (fun y13 => (ix a1 y13).bind (fun z14 => some (z14, (decide ((z14.length : Int) ≤ 200)))))
  else (bif (z12.1 == 1) then
  (ix v11 0).bind (fun z15 => (ix v11 0).bind (fun z16 => loopF (fun f s => L_impl_evalx1 z12 z16 f s.1 s.2) ([], 0)))
  else (bif (z12.1 == 2) then
  (ix v11 0).bind (fun z24 => (ix v11 0).bind (fun z25 => loopF (fun f s => L_impl_evalx2 z12 z25 f s.1 s.2) ([], 0)))
  else (bif (z12.1 == 3) then
  (ix v11 0).bind (fun z37 => (ix v11 0).bind (fun z38 => loopF (fun f s => L_impl_evalx4 v11 z12 z38 f s.1 s.2) ([], 0)))
  else (bif (z12.1 == 4) then
  (ix v11 0).bind (fun z55 => (ix v11 0).bind (fun z56 => (ix v11 1).bind (fun z57 => (ix v11 1).bind (fun z58 => (F_slices_Concat_LLint ([z56, z58])).bind (fun y59 => some (y59, (decide ((y59.length : Int) ≤ 200))))))))
  else (bif (z12.1 == 5) then
  (ix v11 0).bind (fun z60 => (ix v11 0).bind (fun z61 => (F_slices_Clone_LLint z61).bind (fun y62 => (F_slices_SortStableFunc_LLint_impl_eval_1 y62 z12.1 z12.2.1 z12.2.2.1 z12.2.2.2.1 z12.2.2.2.2.1 z12.2.2.2.2.2.1 z12.2.2.2.2.2.2.1).bind (fun y63 => some (y63.1, (decide ((y63.1.length : Int) ≤ 200)))))))
  else (bif (z12.1 == 6) then
  (ix v11 0).bind (fun z64 => (ix v11 0).bind (fun z65 => (ix v11 0).bind (fun z66 => (ix v11 0).bind (fun z67 => (slx z65 0 (mmx false z12.2.2.2.2.1 (z67.length : Int))).bind (fun z68 => some (z68, (decide ((z68.length : Int) ≤ 200))))))))
  else (bif (z12.1 == 7) then
  (ix v11 0).bind (fun z69 => (ix v11 0).bind (fun z70 => loopF (fun f s => L_impl_evalx6 z70 f s.1 s.2) ([], 0)))
  else some ([], (decide ((([] : List (List Int)).length : Int) ≤ 200))))))))))))
theorem U_impl_eval (a0 : List STable) (a1 : List (List (List Int))) (a2 : List SNode) (a3 : Int) : Le (joinK ((F_impl_children a2 a3).bind (fun y1 => loopF (fun f s => L_impl_evalx0 a0 a1 a2 y1 f s.1 s.2.1 s.2.2.1 s.2.2.2) ([], false, [], 0)))
  (fun s => J_impl_evalx0 a0 a1 a2 a3 s.1 s.2.1 s.2.2)) (F_impl_eval a0 a1 a2 a3) := callL_le (tt := tt) (FT := FT) (SP := SP) (j := 93) rfl (by kernel_rfl)
@[simp] noncomputable def J_impl_Node_keepsx0 (v1 : Bool) : Option Bool :=
  some v1
@[simp] noncomputable def J_impl_Node_keepsx1 (v2 : Bool) : Option Bool :=
  some v2
theorem U_impl_Node_keeps (a0 : SNode) (a1 : Int) : Le ((bif (a0.2.2.2.1 == 3) then
  some (a1 == (-2000000))
  else (bif (a0.2.2.2.1 == 0) then
  some (a1 == a0.2.2.2.2.1)
  else (bif (a0.2.2.2.1 == 1) then
  joinK ((bif (a1 != (-2000000)) then
  some (.go (decide (a1 < a0.2.2.2.2.1)))
  else some (.go false)))
  (fun s => J_impl_Node_keepsx0 s)
  else joinK ((bif (a1 != (-2000000)) then
  some (.go (decide (a1 > a0.2.2.2.2.1)))
  else some (.go false)))
  (fun s => J_impl_Node_keepsx1 s))))) (F_impl_Node_keeps a0 a1) := callL_le (tt := tt) (FT := FT) (SP := SP) (j := 94) rfl (by kernel_rfl)
@[simp] noncomputable def J_slices_Concat_Lintx1 (v2 : Int) (f0 : (Int × Int) → Option (Ex (List Int) Int)) (v4 : Int) : Option (Ex (List Int) Int) :=
  f0 (v4, (IntKind.i64.wrap (v2 + 1)))
noncomputable def L_slices_Concat_Lintx0 (a0 : List (List Int)) (f0 : (Int × Int) → Option (Ex (List Int) Int)) (v1 : Int) (v2 : Int) : Option (Ex (List Int) Int) :=
  (bif (decide (v2 < (a0.length : Int))) then
  joinK ((ix a0 v2).bind (fun z3 => (bif (decide ((IntKind.i64.wrap (v1 + (z3.length : Int))) < 0)) then
  none
  else some (.go (IntKind.i64.wrap (v1 + (z3.length : Int)))))))
  (fun s => J_slices_Concat_Lintx1 v2 f0 s)
  else some (.go v1))
noncomputable def L_slices_Concat_Lintx1 (a0 : List (List Int)) (f1 : ((List Int) × Int) → Option (Ex (List Int) (List Int))) (v7 : List Int) (v8 : Int) : Option (Ex (List Int) (List Int)) :=
  (bif (decide (v8 < (a0.length : Int))) then
  (ix a0 v8).bind (fun z9 => (apx v7 z9).bind (fun z10 => f1 (z10, (IntKind.i64.wrap (v8 + 1)))))
  else some (.go v7))
@[simp] noncomputable def J_slices_Concat_Lintx2 (v11 : List Int) : Option (List Int) :=
  some v11
@[simp] noncomputable def J_slices_Concat_Lintx0 (a0 : List (List Int)) (v5 : Int) : Option (List Int) :=
  (F_slices_Grow_Lint v5).bind (fun y6 => joinK (loopF (fun f s => L_slices_Concat_Lintx1 a0 f s.1 s.2) (y6, 0))
  (fun s => J_slices_Concat_Lintx2 s))
theorem U_slices_Concat_Lint (a0 : List (List Int)) : Le (joinK (loopF (fun f s => L_slices_Concat_Lintx0 a0 f s.1 s.2) (0, 0))
  (fun s => J_slices_Concat_Lintx0 a0 s)) (F_slices_Concat_Lint a0) := callL_le (tt := tt) (FT := FT) (SP := SP) (j := 95) rfl (by kernel_rfl)
theorem U_slices_Grow_Lint (a1 : Int) : Le ((bif (decide (a1 < 0)) then
  none
  else (bif (decide ((IntKind.i64.wrap (a1 - (IntKind.i64.wrap (0 - 0)))) > 0)) then
  (mkx (IntKind.i64.wrap (a1 - (IntKind.i64.wrap (0 - 0)))) (0 : Int)).bind (fun z1 => (tkx z1 0).bind (fun z2 => some z2))
  else some ([])))) (F_slices_Grow_Lint a1) := callL_le (tt := tt) (FT := FT) (SP := SP) (j := 96) rfl (by kernel_rfl)
@[simp] noncomputable def J_slices_Concat_LLintx1 (v2 : Int) (f0 : (Int × Int) → Option (Ex (List (List Int)) Int)) (v4 : Int) : Option (Ex (List (List Int)) Int) :=
  f0 (v4, (IntKind.i64.wrap (v2 + 1)))
noncomputable def L_slices_Concat_LLintx0 (a0 : List (List (List Int))) (f0 : (Int × Int) → Option (Ex (List (List Int)) Int)) (v1 : Int) (v2 : Int) : Option (Ex (List (List Int)) Int) :=
  (bif (decide (v2 < (a0.length : Int))) then
  joinK ((ix a0 v2).bind (fun z3 => (bif (decide ((IntKind.i64.wrap (v1 + (z3.length : Int))) < 0)) then
  none
  else some (.go (IntKind.i64.wrap (v1 + (z3.length : Int)))))))
  (fun s => J_slices_Concat_LLintx1 v2 f0 s)
  else some (.go v1))
noncomputable def L_slices_Concat_LLintx1 (a0 : List (List (List Int))) (f1 : ((List (List Int)) × Int) → Option (Ex (List (List Int)) (List (List Int)))) (v7 : List (List Int)) (v8 : Int) : Option (Ex (List (List Int)) (List (List Int))) :=
  (bif (decide (v8 < (a0.length : Int))) then
  (ix a0 v8).bind (fun z9 => (apx v7 z9).bind (fun z10 => f1 (z10, (IntKind.i64.wrap (v8 + 1)))))
  else some (.go v7))
@[simp] noncomputable def J_slices_Concat_LLintx2 (v11 : List (List Int)) : Option (List (List Int)) :=
  some v11
@[simp] noncomputable def J_slices_Concat_LLintx0 (a0 : List (List (List Int))) (v5 : Int) : Option (List (List Int)) :=
  (F_slices_Grow_LLint v5).bind (fun y6 => joinK (loopF (fun f s => L_slices_Concat_LLintx1 a0 f s.1 s.2) (y6, 0))
  (fun s => J_slices_Concat_LLintx2 s))
theorem U_slices_Concat_LLint (a0 : List (List (List Int))) : Le (joinK (loopF (fun f s => L_slices_Concat_LLintx0 a0 f s.1 s.2) (0, 0))
  (fun s => J_slices_Concat_LLintx0 a0 s)) (F_slices_Concat_LLint a0) := callL_le (tt := tt) (FT := FT) (SP := SP) (j := 97) rfl (by kernel_rfl)
theorem U_slices_Grow_LLint (a1 : Int) : Le ((bif (decide (a1 < 0)) then
  none
  else (bif (decide ((IntKind.i64.wrap (a1 - (IntKind.i64.wrap (0 - 0)))) > 0)) then
  (mkx (IntKind.i64.wrap (a1 - (IntKind.i64.wrap (0 - 0)))) ([] : List Int)).bind (fun z1 => (tkx z1 0).bind (fun z2 => some z2))
  else some ([])))) (F_slices_Grow_LLint a1) := callL_le (tt := tt) (FT := FT) (SP := SP) (j := 98) rfl (by kernel_rfl)
theorem U_slices_Clone_LLint (a0 : List (List Int)) : Le ((nilx a0.isEmpty
  (some ([]))
  ((apx ([]) a0).bind (fun z1 => some z1)))) (F_slices_Clone_LLint a0) := callL_le (tt := tt) (FT := FT) (SP := SP) (j := 99) rfl (by kernel_rfl)
theorem U_slices_SortStableFunc_LLint_impl_eval_1 (a0 : List (List Int)) (a1x0x0 : Int) (a1x0x1 : ByteArray) (a1x0x2 : Int) (a1x0x3 : Int) (a1x0x4 : Int) (a1x0x5 : Bool) (a1x0x6 : List Int) : Le ((F_slices_stableCmpFunc_Lint_impl_eval_1 a0 (a0.length : Int) a1x0x0 a1x0x1 a1x0x2 a1x0x3 a1x0x4 a1x0x5 a1x0x6).bind (fun y1 => some (y1.1, y1.2.1, y1.2.2.1, y1.2.2.2.1, y1.2.2.2.2.1, y1.2.2.2.2.2.1, y1.2.2.2.2.2.2.1, y1.2.2.2.2.2.2.2))) (F_slices_SortStableFunc_LLint_impl_eval_1 a0 a1x0x0 a1x0x1 a1x0x2 a1x0x3 a1x0x4 a1x0x5 a1x0x6) := callL_le (tt := tt) (FT := FT) (SP := SP) (j := 100) rfl (by kernel_rfl)
noncomputable def L_slices_stableCmpFunc_Lint_impl_eval_1x0 (a1 : Int) (f0 : (Int × Int × (List (List Int)) × Int × ByteArray × Int × Int × Int × Bool × (List Int)) → Option (Ex ((List (List Int)) × Int × ByteArray × Int × Int × Int × Bool × (List Int)) (Int × (List (List Int)) × Int × ByteArray × Int × Int × Int × Bool × (List Int)))) (v1 : Int) (v2 : Int) (v3 : List (List Int)) (v4 : Int) (v5 : ByteArray) (v6 : Int) (v7 : Int) (v8 : Int) (v9 : Bool) (v10 : List Int) : Option (Ex ((List (List Int)) × Int × ByteArray × Int × Int × Int × Bool × (List Int)) (Int × (List (List Int)) × Int × ByteArray × Int × Int × Int × Bool × (List Int))) :=
  (bif (decide (v2 ≤ a1)) then
  (F_slices_insertionSortCmpFunc_Lint_impl_eval_1 v3 v1 v2 v4 v5 v6 v7 v8 v9 v10).bind (fun y11 => f0 (v2, (IntKind.i64.wrap (v2 + 20)), y11.1, y11.2.1, y11.2.2.1, y11.2.2.2.1, y11.2.2.2.2.1, y11.2.2.2.2.2.1, y11.2.2.2.2.2.2.1, y11.2.2.2.2.2.2.2))
  else some (.go (v1, v3, v4, v5, v6, v7, v8, v9, v10)))
noncomputable def L_slices_stableCmpFunc_Lint_impl_eval_1x2 (a1 : Int) (v22 : Int) (f2 : (Int × Int × (List (List Int)) × Int × ByteArray × Int × Int × Int × Bool × (List Int)) → Option (Ex ((List (List Int)) × Int × ByteArray × Int × Int × Int × Bool × (List Int)) (Int × (List (List Int)) × Int × ByteArray × Int × Int × Int × Bool × (List Int)))) (v31 : Int) (v32 : Int) (v33 : List (List Int)) (v34 : Int) (v35 : ByteArray) (v36 : Int) (v37 : Int) (v38 : Int) (v39 : Bool) (v40 : List Int) : Option (Ex ((List (List Int)) × Int × ByteArray × Int × Int × Int × Bool × (List Int)) (Int × (List (List Int)) × Int × ByteArray × Int × Int × Int × Bool × (List Int))) :=
  (bif (decide (v32 ≤ a1)) then
  (F_slices_symMergeCmpFunc_Lint_impl_eval_1 v33 v31 (IntKind.i64.wrap (v31 + v22)) v32 v34 v35 v36 v37 v38 v39 v40).bind (fun y41 => f2 (v32, (IntKind.i64.wrap (v32 + (IntKind.i64.wrap (2 * v22)))), y41.1, y41.2.1, y41.2.2.1, y41.2.2.2.1, y41.2.2.2.2.1, y41.2.2.2.2.2.1, y41.2.2.2.2.2.2.1, y41.2.2.2.2.2.2.2))
  else some (.go (v31, v33, v34, v35, v36, v37, v38, v39, v40)))
@[simp] noncomputable def J_slices_stableCmpFunc_Lint_impl_eval_1x2 (v22 : Int) (f1 : (Int × (List (List Int)) × Int × ByteArray × Int × Int × Int × Bool × (List Int)) → Option ((List (List Int)) × Int × ByteArray × Int × Int × Int × Bool × (List Int))) (v52 : List (List Int)) (v53 : Int) (v54 : ByteArray) (v55 : Int) (v56 : Int) (v57 : Int) (v58 : Bool) (v59 : List Int) : Option ((List (List Int)) × Int × ByteArray × Int × Int × Int × Bool × (List Int)) :=
  f1 ((IntKind.i64.wrap (v22 * 2)), v52, v53, v54, v55, v56, v57, v58, v59)
@[simp] noncomputable def J_slices_stableCmpFunc_Lint_impl_eval_1x1 (a1 : Int) (v22 : Int) (f1 : (Int × (List (List Int)) × Int × ByteArray × Int × Int × Int × Bool × (List Int)) → Option ((List (List Int)) × Int × ByteArray × Int × Int × Int × Bool × (List Int))) (v42 : Int) (v43 : List (List Int)) (v44 : Int) (v45 : ByteArray) (v46 : Int) (v47 : Int) (v48 : Int) (v49 : Bool) (v50 : List Int) : Option ((List (List Int)) × Int × ByteArray × Int × Int × Int × Bool × (List Int)) :=
  joinK ((bif (decide ((IntKind.i64.wrap (v42 + v22)) < a1)) then
  (F_slices_symMergeCmpFunc_Lint_impl_eval_1 v43 v42 (IntKind.i64.wrap (v42 + v22)) a1 v44 v45 v46 v47 v48 v49 v50).bind (fun y51 => some (.go (y51.1, y51.2.1, y51.2.2.1, y51.2.2.2.1, y51.2.2.2.2.1, y51.2.2.2.2.2.1, y51.2.2.2.2.2.2.1, y51.2.2.2.2.2.2.2)))
  else some (.go (v43, v44, v45, v46, v47, v48, v49, v50))))
  (fun s => J_slices_stableCmpFunc_Lint_impl_eval_1x2 v22 f1 s.1 s.2.1 s.2.2.1 s.2.2.2.1 s.2.2.2.2.1 s.2.2.2.2.2.1 s.2.2.2.2.2.2.1 s.2.2.2.2.2.2.2)
noncomputable def L_slices_stableCmpFunc_Lint_impl_eval_1x1 (a1 : Int) (f1 : (Int × (List (List Int)) × Int × ByteArray × Int × Int × Int × Bool × (List Int)) → Option ((List (List Int)) × Int × ByteArray × Int × Int × Int × Bool × (List Int))) (v22 : Int) (v23 : List (List Int)) (v24 : Int) (v25 : ByteArray) (v26 : Int) (v27 : Int) (v28 : Int) (v29 : Bool) (v30 : List Int) : Option ((List (List Int)) × Int × ByteArray × Int × Int × Int × Bool × (List Int)) :=
  (bif (decide (v22 < a1)) then
  joinK (loopF (fun f s => L_slices_stableCmpFunc_Lint_impl_eval_1x2 a1 v22 f s.1 s.2.1 s.2.2.1 s.2.2.2.1 s.2.2.2.2.1 s.2.2.2.2.2.1 s.2.2.2.2.2.2.1 s.2.2.2.2.2.2.2.1 s.2.2.2.2.2.2.2.2.1 s.2.2.2.2.2.2.2.2.2) (0, (IntKind.i64.wrap (2 * v22)), v23, v24, v25, v26, v27, v28, v29, v30))
  (fun s => J_slices_stableCmpFunc_Lint_impl_eval_1x1 a1 v22 f1 s.1 s.2.1 s.2.2.1 s.2.2.2.1 s.2.2.2.2.1 s.2.2.2.2.2.1 s.2.2.2.2.2.2.1 s.2.2.2.2.2.2.2.1 s.2.2.2.2.2.2.2.2)
  else some (v23, v24, v25, v26, v27, v28, v29, v30))
@[simp] noncomputable def J_slices_stableCmpFunc_Lint_impl_eval_1x0 (a1 : Int) (v12 : Int) (v13 : List (List Int)) (v14 : Int) (v15 : ByteArray) (v16 : Int) (v17 : Int) (v18 : Int) (v19 : Bool) (v20 : List Int) : Option ((List (List Int)) × Int × ByteArray × Int × Int × Int × Bool × (List Int)) :=
  (F_slices_insertionSortCmpFunc_Lint_impl_eval_1 v13 v12 a1 v14 v15 v16 v17 v18 v19 v20).bind (fun y21 => loopF (fun f s => L_slices_stableCmpFunc_Lint_impl_eval_1x1 a1 f s.1 s.2.1 s.2.2.1 s.2.2.2.1 s.2.2.2.2.1 s.2.2.2.2.2.1 s.2.2.2.2.2.2.1 s.2.2.2.2.2.2.2.1 s.2.2.2.2.2.2.2.2) (20, y21.1, y21.2.1, y21.2.2.1, y21.2.2.2.1, y21.2.2.2.2.1, y21.2.2.2.2.2.1, y21.2.2.2.2.2.2.1, y21.2.2.2.2.2.2.2))
theorem U_slices_stableCmpFunc_Lint_impl_eval_1 (a0 : List (List Int)) (a1 : Int) (a2x0x0 : Int) (a2x0x1 : ByteArray) (a2x0x2 : Int) (a2x0x3 : Int) (a2x0x4 : Int) (a2x0x5 : Bool) (a2x0x6 : List Int) : Le (joinK (loopF (fun f s => L_slices_stableCmpFunc_Lint_impl_eval_1x0 a1 f s.1 s.2.1 s.2.2.1 s.2.2.2.1 s.2.2.2.2.1 s.2.2.2.2.2.1 s.2.2.2.2.2.2.1 s.2.2.2.2.2.2.2.1 s.2.2.2.2.2.2.2.2.1 s.2.2.2.2.2.2.2.2.2) (0, 20, a0, a2x0x0, a2x0x1, a2x0x2, a2x0x3, a2x0x4, a2x0x5, a2x0x6))
  (fun s => J_slices_stableCmpFunc_Lint_impl_eval_1x0 a1 s.1 s.2.1 s.2.2.1 s.2.2.2.1 s.2.2.2.2.1 s.2.2.2.2.2.1 s.2.2.2.2.2.2.1 s.2.2.2.2.2.2.2.1 s.2.2.2.2.2.2.2.2)) (F_slices_stableCmpFunc_Lint_impl_eval_1 a0 a1 a2x0x0 a2x0x1 a2x0x2 a2x0x3 a2x0x4 a2x0x5 a2x0x6) := callL_le (tt := tt) (FT := FT) (SP := SP) (j := 101) rfl (by kernel_rfl)
@[simp] noncomputable def J_slices_insertionSortCmpFunc_Lint_impl_eval_1x1 (v10 : Int) (v11 : List (List Int)) (f1 : (Int × (List (List Int)) × Int × ByteArray × Int × Int × Int × Bool × (List Int)) → Option (Ex ((List (List Int)) × Int × ByteArray × Int × Int × Int × Bool × (List Int)) ((List (List Int)) × Int × ByteArray × Int × Int × Int × Bool × (List Int)))) (v24 : Bool) (v25 : Int) (v26 : ByteArray) (v27 : Int) (v28 : Int) (v29 : Int) (v30 : Bool) (v31 : List Int) : Option (Ex ((List (List Int)) × Int × ByteArray × Int × Int × Int × Bool × (List Int)) ((List (List Int)) × Int × ByteArray × Int × Int × Int × Bool × (List Int))) :=
  (bif v24 then
  (inx v11.length (IntKind.i64.wrap (v10 - 1))).bind (fun z32 => (ix v11 (IntKind.i64.wrap (v10 - 1))).bind (fun z33 => (inx v11.length v10).bind (fun z34 => (ix v11 v10).bind (fun z35 => (inx v11.length v10).bind (fun z36 => (stx v11 v10 z33).bind (fun z37 => (inx v11.length (IntKind.i64.wrap (v10 - 1))).bind (fun z38 => (stx z37 (IntKind.i64.wrap (v10 - 1)) z35).bind (fun z39 => f1 ((IntKind.i64.wrap (v10 - 1)), z39, v25, v26, v27, v28, v29, v30, v31)))))))))
  else some (.go (v11, v25, v26, v27, v28, v29, v30, v31)))
noncomputable def L_slices_insertionSortCmpFunc_Lint_impl_eval_1x1 (a1 : Int) (f1 : (Int × (List (List Int)) × Int × ByteArray × Int × Int × Int × Bool × (List Int)) → Option (Ex ((List (List Int)) × Int × ByteArray × Int × Int × Int × Bool × (List Int)) ((List (List Int)) × Int × ByteArray × Int × Int × Int × Bool × (List Int)))) (v10 : Int) (v11 : List (List Int)) (v12 : Int) (v13 : ByteArray) (v14 : Int) (v15 : Int) (v16 : Int) (v17 : Bool) (v18 : List Int) : Option (Ex ((List (List Int)) × Int × ByteArray × Int × Int × Int × Bool × (List Int)) ((List (List Int)) × Int × ByteArray × Int × Int × Int × Bool × (List Int))) :=
  joinK ((bif (decide (v10 > a1)) then
  (ix v11 v10).bind (fun z19 => (ix v11 v10).bind (fun z20 => (ix v11 (IntKind.i64.wrap (v10 - 1))).bind (fun z21 => (ix v11 (IntKind.i64.wrap (v10 - 1))).bind (fun z22 => (F_impl_eval_1 z20 z22 v12 v13 v14 v15 v16 v17 v18).bind (fun y23 => some (.go ((decide (y23.1 < 0)), y23.2.1, y23.2.2.1, y23.2.2.2.1, y23.2.2.2.2.1, y23.2.2.2.2.2.1, y23.2.2.2.2.2.2.1, y23.2.2.2.2.2.2.2)))))))
  else some (.go (false, v12, v13, v14, v15, v16, v17, v18))))
  (fun s => J_slices_insertionSortCmpFunc_Lint_impl_eval_1x1 v10 v11 f1 s.1 s.2.1 s.2.2.1 s.2.2.2.1 s.2.2.2.2.1 s.2.2.2.2.2.1 s.2.2.2.2.2.2.1 s.2.2.2.2.2.2.2)
@[simp] noncomputable def J_slices_insertionSortCmpFunc_Lint_impl_eval_1x0 (v1 : Int) (f0 : (Int × (List (List Int)) × Int × ByteArray × Int × Int × Int × Bool × (List Int)) → Option ((List (List Int)) × Int × ByteArray × Int × Int × Int × Bool × (List Int))) (v40 : List (List Int)) (v41 : Int) (v42 : ByteArray) (v43 : Int) (v44 : Int) (v45 : Int) (v46 : Bool) (v47 : List Int) : Option ((List (List Int)) × Int × ByteArray × Int × Int × Int × Bool × (List Int)) :=
  f0 ((IntKind.i64.wrap (v1 + 1)), v40, v41, v42, v43, v44, v45, v46, v47)
noncomputable def L_slices_insertionSortCmpFunc_Lint_impl_eval_1x0 (a1 : Int) (a2 : Int) (f0 : (Int × (List (List Int)) × Int × ByteArray × Int × Int × Int × Bool × (List Int)) → Option ((List (List Int)) × Int × ByteArray × Int × Int × Int × Bool × (List Int))) (v1 : Int) (v2 : List (List Int)) (v3 : Int) (v4 : ByteArray) (v5 : Int) (v6 : Int) (v7 : Int) (v8 : Bool) (v9 : List Int) : Option ((List (List Int)) × Int × ByteArray × Int × Int × Int × Bool × (List Int)) :=
  (bif (decide (v1 < a2)) then
  joinK (loopF (fun f s => L_slices_insertionSortCmpFunc_Lint_impl_eval_1x1 a1 f s.1 s.2.1 s.2.2.1 s.2.2.2.1 s.2.2.2.2.1 s.2.2.2.2.2.1 s.2.2.2.2.2.2.1 s.2.2.2.2.2.2.2.1 s.2.2.2.2.2.2.2.2) (v1, v2, v3, v4, v5, v6, v7, v8, v9))
  (fun s => J_slices_insertionSortCmpFunc_Lint_impl_eval_1x0 v1 f0 s.1 s.2.1 s.2.2.1 s.2.2.2.1 s.2.2.2.2.1 s.2.2.2.2.2.1 s.2.2.2.2.2.2.1 s.2.2.2.2.2.2.2)
  else some (v2, v3, v4, v5, v6, v7, v8, v9))
theorem U_slices_insertionSortCmpFunc_Lint_impl_eval_1 (a0 : List (List Int)) (a1 : Int) (a2 : Int) (a3x0x0 : Int) (a3x0x1 : ByteArray) (a3x0x2 : Int) (a3x0x3 : Int) (a3x0x4 : Int) (a3x0x5 : Bool) (a3x0x6 : List Int) : Le (loopF (fun f s => L_slices_insertionSortCmpFunc_Lint_impl_eval_1x0 a1 a2 f s.1 s.2.1 s.2.2.1 s.2.2.2.1 s.2.2.2.2.1 s.2.2.2.2.2.1 s.2.2.2.2.2.2.1 s.2.2.2.2.2.2.2.1 s.2.2.2.2.2.2.2.2) ((IntKind.i64.wrap (a1 + 1)), a0, a3x0x0, a3x0x1, a3x0x2, a3x0x3, a3x0x4, a3x0x5, a3x0x6)) (F_slices_insertionSortCmpFunc_Lint_impl_eval_1 a0 a1 a2 a3x0x0 a3x0x1 a3x0x2 a3x0x3 a3x0x4 a3x0x5 a3x0x6) := callL_le (tt := tt) (FT := FT) (SP := SP) (j := 102) rfl (by kernel_rfl)
theorem U_impl_eval_1 (a0 : List Int) (a1 : List Int) (c0x0 : Int) (c0x1 : ByteArray) (c0x2 : Int) (c0x3 : Int) (c0x4 : Int) (c0x5 : Bool) (c0x6 : List Int) : Le ((ix a0 c0x2).bind (fun z1 => (ix a1 c0x2).bind (fun z2 => (F_cmp_Compare_int z1 z2).bind (fun y3 => some (y3, c0x0, c0x1, c0x2, c0x3, c0x4, c0x5, c0x6))))) (F_impl_eval_1 a0 a1 c0x0 c0x1 c0x2 c0x3 c0x4 c0x5 c0x6) := callL_le (tt := tt) (FT := FT) (SP := SP) (j := 103) rfl (by kernel_rfl)
theorem U_cmp_Compare_int (a0 : Int) (a1 : Int) : Le ((F_cmp_isNaN_int a0).bind (fun y1 => (F_cmp_isNaN_int a1).bind (fun y2 => (bif y1 then
  (bif y2 then
  some 0
  else some (-1))
  else (bif y2 then
  some 1
  else (bif (decide (a0 < a1)) then
  some (-1)
  else (bif (decide (a0 > a1)) then
  some 1
  else some 0))))))) (F_cmp_Compare_int a0 a1) := callL_le (tt := tt) (FT := FT) (SP := SP) (j := 104) rfl (by kernel_rfl)
theorem U_cmp_isNaN_int (a0 : Int) : Le (some (a0 != a0)) (F_cmp_isNaN_int a0) := callL_le (tt := tt) (FT := FT) (SP := SP) (j := 105) rfl (by kernel_rfl)
noncomputable def L_slices_symMergeCmpFunc_Lint_impl_eval_1x0 (a0 : List (List Int)) (a1 : Int) (f0 : (Int × Int × Int × ByteArray × Int × Int × Int × Bool × (List Int)) → Option (Ex (Ex ((List (List Int)) × Int × ByteArray × Int × Int × Int × Bool × (List Int)) ((List (List Int)) × Int × ByteArray × Int × Int × Int × Bool × (List Int))) (Int × Int × ByteArray × Int × Int × Int × Bool × (List Int)))) (v1 : Int) (v2 : Int) (v3 : Int) (v4 : ByteArray) (v5 : Int) (v6 : Int) (v7 : Int) (v8 : Bool) (v9 : List Int) : Option (Ex (Ex ((List (List Int)) × Int × ByteArray × Int × Int × Int × Bool × (List Int)) ((List (List Int)) × Int × ByteArray × Int × Int × Int × Bool × (List Int))) (Int × Int × ByteArray × Int × Int × Int × Bool × (List Int))) :=
  (bif (decide (v1 < v2)) then
  (shrV .u64 (IntKind.u64.wrap (IntKind.i64.wrap (v1 + v2))) 1).bind (fun z10 => (ix a0 (IntKind.i64.wrap z10)).bind (fun z11 => (ix a0 (IntKind.i64.wrap z10)).bind (fun z12 => (ix a0 a1).bind (fun z13 => (ix a0 a1).bind (fun z14 => (F_impl_eval_1 z12 z14 v3 v4 v5 v6 v7 v8 v9).bind (fun y15 => (bif (decide (y15.1 < 0)) then
  f0 ((IntKind.i64.wrap ((IntKind.i64.wrap z10) + 1)), v2, y15.2.1, y15.2.2.1, y15.2.2.2.1, y15.2.2.2.2.1, y15.2.2.2.2.2.1, y15.2.2.2.2.2.2.1, y15.2.2.2.2.2.2.2)
  else f0 (v1, (IntKind.i64.wrap z10), y15.2.1, y15.2.2.1, y15.2.2.2.1, y15.2.2.2.2.1, y15.2.2.2.2.2.1, y15.2.2.2.2.2.2.1, y15.2.2.2.2.2.2.2))))))))
  else some (.go (v1, v3, v4, v5, v6, v7, v8, v9)))
noncomputable def L_slices_symMergeCmpFunc_Lint_impl_eval_1x1 (v16 : Int) (f1 : (Int × (List (List Int))) → Option (Ex (Ex ((List (List Int)) × Int × ByteArray × Int × Int × Int × Bool × (List Int)) ((List (List Int)) × Int × ByteArray × Int × Int × Int × Bool × (List Int))) (List (List Int)))) (v24 : Int) (v25 : List (List Int)) : Option (Ex (Ex ((List (List Int)) × Int × ByteArray × Int × Int × Int × Bool × (List Int)) ((List (List Int)) × Int × ByteArray × Int × Int × Int × Bool × (List Int))) (List (List Int))) :=
  (bif (decide (v24 < (IntKind.i64.wrap (v16 - 1)))) then
  (inx v25.length (IntKind.i64.wrap (v24 + 1))).bind (fun z26 => (ix v25 (IntKind.i64.wrap (v24 + 1))).bind (fun z27 => (inx v25.length v24).bind (fun z28 => (ix v25 v24).bind (fun z29 => (inx v25.length v24).bind (fun z30 => (stx v25 v24 z27).bind (fun z31 => (inx v25.length (IntKind.i64.wrap (v24 + 1))).bind (fun z32 => (stx z31 (IntKind.i64.wrap (v24 + 1)) z29).bind (fun z33 => f1 ((IntKind.i64.wrap (v24 + 1)), z33)))))))))
  else some (.go v25))
@[simp] noncomputable def J_slices_symMergeCmpFunc_Lint_impl_eval_1x2 (v17 : Int) (v18 : ByteArray) (v19 : Int) (v20 : Int) (v21 : Int) (v22 : Bool) (v23 : List Int) (v34 : List (List Int)) : Option (Ex ((List (List Int)) × Int × ByteArray × Int × Int × Int × Bool × (List Int)) ((List (List Int)) × Int × ByteArray × Int × Int × Int × Bool × (List Int))) :=
  some (.ret (v34, v17, v18, v19, v20, v21, v22, v23))
@[simp] noncomputable def J_slices_symMergeCmpFunc_Lint_impl_eval_1x1 (a0 : List (List Int)) (a1 : Int) (v16 : Int) (v17 : Int) (v18 : ByteArray) (v19 : Int) (v20 : Int) (v21 : Int) (v22 : Bool) (v23 : List Int) : Option (Ex ((List (List Int)) × Int × ByteArray × Int × Int × Int × Bool × (List Int)) ((List (List Int)) × Int × ByteArray × Int × Int × Int × Bool × (List Int))) :=
  joinK (loopF (fun f s => L_slices_symMergeCmpFunc_Lint_impl_eval_1x1 v16 f s.1 s.2) (a1, a0))
  (fun s => J_slices_symMergeCmpFunc_Lint_impl_eval_1x2 v17 v18 v19 v20 v21 v22 v23 s)
noncomputable def L_slices_symMergeCmpFunc_Lint_impl_eval_1x2 (a2 : Int) (v35 : List (List Int)) (f2 : (Int × Int × Int × ByteArray × Int × Int × Int × Bool × (List Int)) → Option (Ex (Ex ((List (List Int)) × Int × ByteArray × Int × Int × Int × Bool × (List Int)) ((List (List Int)) × Int × ByteArray × Int × Int × Int × Bool × (List Int))) (Int × Int × ByteArray × Int × Int × Int × Bool × (List Int)))) (v43 : Int) (v44 : Int) (v45 : Int) (v46 : ByteArray) (v47 : Int) (v48 : Int) (v49 : Int) (v50 : Bool) (v51 : List Int) : Option (Ex (Ex ((List (List Int)) × Int × ByteArray × Int × Int × Int × Bool × (List Int)) ((List (List Int)) × Int × ByteArray × Int × Int × Int × Bool × (List Int))) (Int × Int × ByteArray × Int × Int × Int × Bool × (List Int))) :=
  (bif (decide (v43 < v44)) then
  (shrV .u64 (IntKind.u64.wrap (IntKind.i64.wrap (v43 + v44))) 1).bind (fun z52 => (ix v35 a2).bind (fun z53 => (ix v35 a2).bind (fun z54 => (ix v35 (IntKind.i64.wrap z52)).bind (fun z55 => (ix v35 (IntKind.i64.wrap z52)).bind (fun z56 => (F_impl_eval_1 z54 z56 v45 v46 v47 v48 v49 v50 v51).bind (fun y57 => (bif (!(decide (y57.1 < 0))) then
  f2 ((IntKind.i64.wrap ((IntKind.i64.wrap z52) + 1)), v44, y57.2.1, y57.2.2.1, y57.2.2.2.1, y57.2.2.2.2.1, y57.2.2.2.2.2.1, y57.2.2.2.2.2.2.1, y57.2.2.2.2.2.2.2)
  else f2 (v43, (IntKind.i64.wrap z52), y57.2.1, y57.2.2.1, y57.2.2.2.1, y57.2.2.2.2.1, y57.2.2.2.2.2.1, y57.2.2.2.2.2.2.1, y57.2.2.2.2.2.2.2))))))))
  else some (.go (v43, v45, v46, v47, v48, v49, v50, v51)))
noncomputable def L_slices_symMergeCmpFunc_Lint_impl_eval_1x3 (v58 : Int) (f3 : (Int × (List (List Int))) → Option (Ex (Ex ((List (List Int)) × Int × ByteArray × Int × Int × Int × Bool × (List Int)) ((List (List Int)) × Int × ByteArray × Int × Int × Int × Bool × (List Int))) (List (List Int)))) (v66 : Int) (v67 : List (List Int)) : Option (Ex (Ex ((List (List Int)) × Int × ByteArray × Int × Int × Int × Bool × (List Int)) ((List (List Int)) × Int × ByteArray × Int × Int × Int × Bool × (List Int))) (List (List Int))) :=
  (bif (decide (v66 > v58)) then
  (inx v67.length (IntKind.i64.wrap (v66 - 1))).bind (fun z68 => (ix v67 (IntKind.i64.wrap (v66 - 1))).bind (fun z69 => (inx v67.length v66).bind (fun z70 => (ix v67 v66).bind (fun z71 => (inx v67.length v66).bind (fun z72 => (stx v67 v66 z69).bind (fun z73 => (inx v67.length (IntKind.i64.wrap (v66 - 1))).bind (fun z74 => (stx z73 (IntKind.i64.wrap (v66 - 1)) z71).bind (fun z75 => f3 ((IntKind.i64.wrap (v66 - 1)), z75)))))))))
  else some (.go v67))
@[simp] noncomputable def J_slices_symMergeCmpFunc_Lint_impl_eval_1x5 (v59 : Int) (v60 : ByteArray) (v61 : Int) (v62 : Int) (v63 : Int) (v64 : Bool) (v65 : List Int) (v76 : List (List Int)) : Option (Ex ((List (List Int)) × Int × ByteArray × Int × Int × Int × Bool × (List Int)) ((List (List Int)) × Int × ByteArray × Int × Int × Int × Bool × (List Int))) :=
  some (.ret (v76, v59, v60, v61, v62, v63, v64, v65))
@[simp] noncomputable def J_slices_symMergeCmpFunc_Lint_impl_eval_1x4 (a2 : Int) (v35 : List (List Int)) (v58 : Int) (v59 : Int) (v60 : ByteArray) (v61 : Int) (v62 : Int) (v63 : Int) (v64 : Bool) (v65 : List Int) : Option (Ex ((List (List Int)) × Int × ByteArray × Int × Int × Int × Bool × (List Int)) ((List (List Int)) × Int × ByteArray × Int × Int × Int × Bool × (List Int))) :=
  joinK (loopF (fun f s => L_slices_symMergeCmpFunc_Lint_impl_eval_1x3 v58 f s.1 s.2) (a2, v35))
  (fun s => J_slices_symMergeCmpFunc_Lint_impl_eval_1x5 v59 v60 v61 v62 v63 v64 v65 s)
noncomputable def L_slices_symMergeCmpFunc_Lint_impl_eval_1x4 (a2 : Int) (v77 : List (List Int)) (z85 : Int) (f4 : (Int × Int × Int × ByteArray × Int × Int × Int × Bool × (List Int)) → Option (Ex ((List (List Int)) × Int × ByteArray × Int × Int × Int × Bool × (List Int)) (Int × Int × ByteArray × Int × Int × Int × Bool × (List Int)))) (v88 : Int) (v89 : Int) (v90 : Int) (v91 : ByteArray) (v92 : Int) (v93 : Int) (v94 : Int) (v95 : Bool) (v96 : List Int) : Option (Ex ((List (List Int)) × Int × ByteArray × Int × Int × Int × Bool × (List Int)) (Int × Int × ByteArray × Int × Int × Int × Bool × (List Int))) :=
  (bif (decide (v88 < v89)) then
  (shrV .u64 (IntKind.u64.wrap (IntKind.i64.wrap (v88 + v89))) 1).bind (fun z97 => (ix v77 (IntKind.i64.wrap ((IntKind.i64.wrap ((IntKind.i64.wrap ((IntKind.i64.wrap z85) + a2)) - 1)) - (IntKind.i64.wrap z97)))).bind (fun z98 => (ix v77 (IntKind.i64.wrap ((IntKind.i64.wrap ((IntKind.i64.wrap ((IntKind.i64.wrap z85) + a2)) - 1)) - (IntKind.i64.wrap z97)))).bind (fun z99 => (ix v77 (IntKind.i64.wrap z97)).bind (fun z100 => (ix v77 (IntKind.i64.wrap z97)).bind (fun z101 => (F_impl_eval_1 z99 z101 v90 v91 v92 v93 v94 v95 v96).bind (fun y102 => (bif (!(decide (y102.1 < 0))) then
  f4 ((IntKind.i64.wrap ((IntKind.i64.wrap z97) + 1)), v89, y102.2.1, y102.2.2.1, y102.2.2.2.1, y102.2.2.2.2.1, y102.2.2.2.2.2.1, y102.2.2.2.2.2.2.1, y102.2.2.2.2.2.2.2)
  else f4 (v88, (IntKind.i64.wrap z97), y102.2.1, y102.2.2.1, y102.2.2.2.1, y102.2.2.2.2.1, y102.2.2.2.2.2.1, y102.2.2.2.2.2.2.1, y102.2.2.2.2.2.2.2))))))))
  else some (.go (v88, v90, v91, v92, v93, v94, v95, v96)))
@[simp] noncomputable def J_slices_symMergeCmpFunc_Lint_impl_eval_1x9 (a2 : Int) (v77 : List (List Int)) (z85 : Int) (v103 : Int) (v104 : Int) (v105 : ByteArray) (v106 : Int) (v107 : Int) (v108 : Int) (v109 : Bool) (v110 : List Int) (v111 : Bool) : Option (Ex ((List (List Int)) × Int × ByteArray × Int × Int × Int × Bool × (List Int)) ((List (List Int)) × Int × ByteArray × Int × Int × Int × Bool × (List Int))) :=
  (bif v111 then
  (F_slices_rotateCmpFunc_Lint_impl_eval_1 v77 v103 a2 (IntKind.i64.wrap ((IntKind.i64.wrap ((IntKind.i64.wrap z85) + a2)) - v103)) v104 v105 v106 v107 v108 v109 v110).bind (fun y112 => some (.go (y112.1, y112.2.1, y112.2.2.1, y112.2.2.2.1, y112.2.2.2.2.1, y112.2.2.2.2.2.1, y112.2.2.2.2.2.2.1, y112.2.2.2.2.2.2.2)))
  else some (.go (v77, v104, v105, v106, v107, v108, v109, v110)))
@[simp] noncomputable def J_slices_symMergeCmpFunc_Lint_impl_eval_1x11 (a1 : Int) (z85 : Int) (v103 : Int) (v113 : List (List Int)) (v114 : Int) (v115 : ByteArray) (v116 : Int) (v117 : Int) (v118 : Int) (v119 : Bool) (v120 : List Int) (v121 : Bool) : Option (Ex ((List (List Int)) × Int × ByteArray × Int × Int × Int × Bool × (List Int)) ((List (List Int)) × Int × ByteArray × Int × Int × Int × Bool × (List Int))) :=
  (bif v121 then
  (F_slices_symMergeCmpFunc_Lint_impl_eval_1 v113 a1 v103 (IntKind.i64.wrap z85) v114 v115 v116 v117 v118 v119 v120).bind (fun y122 => some (.go (y122.1, y122.2.1, y122.2.2.1, y122.2.2.2.1, y122.2.2.2.2.1, y122.2.2.2.2.2.1, y122.2.2.2.2.2.2.1, y122.2.2.2.2.2.2.2)))
  else some (.go (v113, v114, v115, v116, v117, v118, v119, v120)))
@[simp] noncomputable def J_slices_symMergeCmpFunc_Lint_impl_eval_1x12 (a2 : Int) (a3 : Int) (z85 : Int) (v103 : Int) (v123 : List (List Int)) (v124 : Int) (v125 : ByteArray) (v126 : Int) (v127 : Int) (v128 : Int) (v129 : Bool) (v130 : List Int) (v131 : Bool) : Option ((List (List Int)) × Int × ByteArray × Int × Int × Int × Bool × (List Int)) :=
  (bif v131 then
  (F_slices_symMergeCmpFunc_Lint_impl_eval_1 v123 (IntKind.i64.wrap z85) (IntKind.i64.wrap ((IntKind.i64.wrap ((IntKind.i64.wrap z85) + a2)) - v103)) a3 v124 v125 v126 v127 v128 v129 v130).bind (fun y132 => some (y132.1, y132.2.1, y132.2.2.1, y132.2.2.2.1, y132.2.2.2.2.1, y132.2.2.2.2.2.1, y132.2.2.2.2.2.2.1, y132.2.2.2.2.2.2.2))
  else some (v123, v124, v125, v126, v127, v128, v129, v130))
@[simp] noncomputable def J_slices_symMergeCmpFunc_Lint_impl_eval_1x10 (a2 : Int) (a3 : Int) (z85 : Int) (v103 : Int) (v123 : List (List Int)) (v124 : Int) (v125 : ByteArray) (v126 : Int) (v127 : Int) (v128 : Int) (v129 : Bool) (v130 : List Int) : Option ((List (List Int)) × Int × ByteArray × Int × Int × Int × Bool × (List Int)) :=
  joinK ((bif (decide ((IntKind.i64.wrap z85) < (IntKind.i64.wrap ((IntKind.i64.wrap ((IntKind.i64.wrap z85) + a2)) - v103)))) then
  some (.go (decide ((IntKind.i64.wrap ((IntKind.i64.wrap ((IntKind.i64.wrap z85) + a2)) - v103)) < a3)))
  else some (.go false)))
  (fun s => J_slices_symMergeCmpFunc_Lint_impl_eval_1x12 a2 a3 z85 v103 v123 v124 v125 v126 v127 v128 v129 v130 s)
@[simp] noncomputable def J_slices_symMergeCmpFunc_Lint_impl_eval_1x8 (a1 : Int) (a2 : Int) (a3 : Int) (z85 : Int) (v103 : Int) (v113 : List (List Int)) (v114 : Int) (v115 : ByteArray) (v116 : Int) (v117 : Int) (v118 : Int) (v119 : Bool) (v120 : List Int) : Option ((List (List Int)) × Int × ByteArray × Int × Int × Int × Bool × (List Int)) :=
  joinK (joinK ((bif (decide (a1 < v103)) then
  some (.go (decide (v103 < (IntKind.i64.wrap z85))))
  else some (.go false)))
  (fun s => J_slices_symMergeCmpFunc_Lint_impl_eval_1x11 a1 z85 v103 v113 v114 v115 v116 v117 v118 v119 v120 s))
  (fun s => J_slices_symMergeCmpFunc_Lint_impl_eval_1x10 a2 a3 z85 v103 s.1 s.2.1 s.2.2.1 s.2.2.2.1 s.2.2.2.2.1 s.2.2.2.2.2.1 s.2.2.2.2.2.2.1 s.2.2.2.2.2.2.2)
@[simp] noncomputable def J_slices_symMergeCmpFunc_Lint_impl_eval_1x7 (a1 : Int) (a2 : Int) (a3 : Int) (v77 : List (List Int)) (z85 : Int) (v103 : Int) (v104 : Int) (v105 : ByteArray) (v106 : Int) (v107 : Int) (v108 : Int) (v109 : Bool) (v110 : List Int) : Option ((List (List Int)) × Int × ByteArray × Int × Int × Int × Bool × (List Int)) :=
  joinK (joinK ((bif (decide (v103 < a2)) then
  some (.go (decide (a2 < (IntKind.i64.wrap ((IntKind.i64.wrap ((IntKind.i64.wrap z85) + a2)) - v103)))))
  else some (.go false)))
  (fun s => J_slices_symMergeCmpFunc_Lint_impl_eval_1x9 a2 v77 z85 v103 v104 v105 v106 v107 v108 v109 v110 s))
  (fun s => J_slices_symMergeCmpFunc_Lint_impl_eval_1x8 a1 a2 a3 z85 v103 s.1 s.2.1 s.2.2.1 s.2.2.2.1 s.2.2.2.2.1 s.2.2.2.2.2.1 s.2.2.2.2.2.2.1 s.2.2.2.2.2.2.2)
@[simp] noncomputable def J_slices_symMergeCmpFunc_Lint_impl_eval_1x6 (a1 : Int) (a2 : Int) (a3 : Int) (v77 : List (List Int)) (v78 : Int) (v79 : ByteArray) (v80 : Int) (v81 : Int) (v82 : Int) (v83 : Bool) (v84 : List Int) (z85 : Int) (v86 : Int) (v87 : Int) : Option ((List (List Int)) × Int × ByteArray × Int × Int × Int × Bool × (List Int)) :=
  joinK (loopF (fun f s => L_slices_symMergeCmpFunc_Lint_impl_eval_1x4 a2 v77 z85 f s.1 s.2.1 s.2.2.1 s.2.2.2.1 s.2.2.2.2.1 s.2.2.2.2.2.1 s.2.2.2.2.2.2.1 s.2.2.2.2.2.2.2.1 s.2.2.2.2.2.2.2.2) (v86, v87, v78, v79, v80, v81, v82, v83, v84))
  (fun s => J_slices_symMergeCmpFunc_Lint_impl_eval_1x7 a1 a2 a3 v77 z85 s.1 s.2.1 s.2.2.1 s.2.2.2.1 s.2.2.2.2.1 s.2.2.2.2.2.1 s.2.2.2.2.2.2.1 s.2.2.2.2.2.2.2)
@[simp] noncomputable def J_slices_symMergeCmpFunc_Lint_impl_eval_1x3 (a1 : Int) (a2 : Int) (a3 : Int) (v77 : List (List Int)) (v78 : Int) (v79 : ByteArray) (v80 : Int) (v81 : Int) (v82 : Int) (v83 : Bool) (v84 : List Int) : Option ((List (List Int)) × Int × ByteArray × Int × Int × Int × Bool × (List Int)) :=
  (shrV .u64 (IntKind.u64.wrap (IntKind.i64.wrap (a1 + a3))) 1).bind (fun z85 => joinK ((bif (decide (a2 > (IntKind.i64.wrap z85))) then
  some (.go ((IntKind.i64.wrap ((IntKind.i64.wrap ((IntKind.i64.wrap z85) + a2)) - a3)), (IntKind.i64.wrap z85)))
  else some (.go (a1, a2))))
  (fun s => J_slices_symMergeCmpFunc_Lint_impl_eval_1x6 a1 a2 a3 v77 v78 v79 v80 v81 v82 v83 v84 z85 s.1 s.2))
@[simp] noncomputable def J_slices_symMergeCmpFunc_Lint_impl_eval_1x0 (a1 : Int) (a2 : Int) (a3 : Int) (v35 : List (List Int)) (v36 : Int) (v37 : ByteArray) (v38 : Int) (v39 : Int) (v40 : Int) (v41 : Bool) (v42 : List Int) : Option ((List (List Int)) × Int × ByteArray × Int × Int × Int × Bool × (List Int)) :=
  joinK ((bif ((IntKind.i64.wrap (a3 - a2)) == 1) then
  joinK (loopF (fun f s => L_slices_symMergeCmpFunc_Lint_impl_eval_1x2 a2 v35 f s.1 s.2.1 s.2.2.1 s.2.2.2.1 s.2.2.2.2.1 s.2.2.2.2.2.1 s.2.2.2.2.2.2.1 s.2.2.2.2.2.2.2.1 s.2.2.2.2.2.2.2.2) (a1, a2, v36, v37, v38, v39, v40, v41, v42))
  (fun s => J_slices_symMergeCmpFunc_Lint_impl_eval_1x4 a2 v35 s.1 s.2.1 s.2.2.1 s.2.2.2.1 s.2.2.2.2.1 s.2.2.2.2.2.1 s.2.2.2.2.2.2.1 s.2.2.2.2.2.2.2)
  else some (.go (v35, v36, v37, v38, v39, v40, v41, v42))))
  (fun s => J_slices_symMergeCmpFunc_Lint_impl_eval_1x3 a1 a2 a3 s.1 s.2.1 s.2.2.1 s.2.2.2.1 s.2.2.2.2.1 s.2.2.2.2.2.1 s.2.2.2.2.2.2.1 s.2.2.2.2.2.2.2)
theorem U_slices_symMergeCmpFunc_Lint_impl_eval_1 (a0 : List (List Int)) (a1 : Int) (a2 : Int) (a3 : Int) (a4x0x0 : Int) (a4x0x1 : ByteArray) (a4x0x2 : Int) (a4x0x3 : Int) (a4x0x4 : Int) (a4x0x5 : Bool) (a4x0x6 : List Int) : Le (joinK ((bif ((IntKind.i64.wrap (a2 - a1)) == 1) then
  joinK (loopF (fun f s => L_slices_symMergeCmpFunc_Lint_impl_eval_1x0 a0 a1 f s.1 s.2.1 s.2.2.1 s.2.2.2.1 s.2.2.2.2.1 s.2.2.2.2.2.1 s.2.2.2.2.2.2.1 s.2.2.2.2.2.2.2.1 s.2.2.2.2.2.2.2.2) (a2, a3, a4x0x0, a4x0x1, a4x0x2, a4x0x3, a4x0x4, a4x0x5, a4x0x6))
  (fun s => J_slices_symMergeCmpFunc_Lint_impl_eval_1x1 a0 a1 s.1 s.2.1 s.2.2.1 s.2.2.2.1 s.2.2.2.2.1 s.2.2.2.2.2.1 s.2.2.2.2.2.2.1 s.2.2.2.2.2.2.2)
  else some (.go (a0, a4x0x0, a4x0x1, a4x0x2, a4x0x3, a4x0x4, a4x0x5, a4x0x6))))
  (fun s => J_slices_symMergeCmpFunc_Lint_impl_eval_1x0 a1 a2 a3 s.1 s.2.1 s.2.2.1 s.2.2.2.1 s.2.2.2.2.1 s.2.2.2.2.2.1 s.2.2.2.2.2.2.1 s.2.2.2.2.2.2.2)) (F_slices_symMergeCmpFunc_Lint_impl_eval_1 a0 a1 a2 a3 a4x0x0 a4x0x1 a4x0x2 a4x0x3 a4x0x4 a4x0x5 a4x0x6) := callL_le (tt := tt) (FT := FT) (SP := SP) (j := 106) rfl (by kernel_rfl)
noncomputable def L_slices_rotateCmpFunc_Lint_impl_eval_1x0 (a2 : Int) (f0 : (Int × Int × (List (List Int)) × Int × ByteArray × Int × Int × Int × Bool × (List Int)) → Option (Ex ((List (List Int)) × Int × ByteArray × Int × Int × Int × Bool × (List Int)) (Int × (List (List Int)) × Int × ByteArray × Int × Int × Int × Bool × (List Int)))) (v1 : Int) (v2 : Int) (v3 : List (List Int)) (v4 : Int) (v5 : ByteArray) (v6 : Int) (v7 : Int) (v8 : Int) (v9 : Bool) (v10 : List Int) : Option (Ex ((List (List Int)) × Int × ByteArray × Int × Int × Int × Bool × (List Int)) (Int × (List (List Int)) × Int × ByteArray × Int × Int × Int × Bool × (List Int))) :=
  (bif (v1 != v2) then
  (bif (decide (v1 > v2)) then
  (F_slices_swapRangeCmpFunc_Lint_impl_eval_1 v3 (IntKind.i64.wrap (a2 - v1)) a2 v2 v4 v5 v6 v7 v8 v9 v10).bind (fun y11 => f0 ((IntKind.i64.wrap (v1 - v2)), v2, y11.1, y11.2.1, y11.2.2.1, y11.2.2.2.1, y11.2.2.2.2.1, y11.2.2.2.2.2.1, y11.2.2.2.2.2.2.1, y11.2.2.2.2.2.2.2))
  else (F_slices_swapRangeCmpFunc_Lint_impl_eval_1 v3 (IntKind.i64.wrap (a2 - v1)) (IntKind.i64.wrap ((IntKind.i64.wrap (a2 + v2)) - v1)) v1 v4 v5 v6 v7 v8 v9 v10).bind (fun y12 => f0 (v1, (IntKind.i64.wrap (v2 - v1)), y12.1, y12.2.1, y12.2.2.1, y12.2.2.2.1, y12.2.2.2.2.1, y12.2.2.2.2.2.1, y12.2.2.2.2.2.2.1, y12.2.2.2.2.2.2.2)))
  else some (.go (v1, v3, v4, v5, v6, v7, v8, v9, v10)))
@[simp] noncomputable def J_slices_rotateCmpFunc_Lint_impl_eval_1x0 (a2 : Int) (v13 : Int) (v14 : List (List Int)) (v15 : Int) (v16 : ByteArray) (v17 : Int) (v18 : Int) (v19 : Int) (v20 : Bool) (v21 : List Int) : Option ((List (List Int)) × Int × ByteArray × Int × Int × Int × Bool × (List Int)) :=
  (F_slices_swapRangeCmpFunc_Lint_impl_eval_1 v14 (IntKind.i64.wrap (a2 - v13)) a2 v13 v15 v16 v17 v18 v19 v20 v21).bind (fun y22 => some (y22.1, y22.2.1, y22.2.2.1, y22.2.2.2.1, y22.2.2.2.2.1, y22.2.2.2.2.2.1, y22.2.2.2.2.2.2.1, y22.2.2.2.2.2.2.2))
theorem U_slices_rotateCmpFunc_Lint_impl_eval_1 (a0 : List (List Int)) (a1 : Int) (a2 : Int) (a3 : Int) (a4x0x0 : Int) (a4x0x1 : ByteArray) (a4x0x2 : Int) (a4x0x3 : Int) (a4x0x4 : Int) (a4x0x5 : Bool) (a4x0x6 : List Int) : Le (joinK (loopF (fun f s => L_slices_rotateCmpFunc_Lint_impl_eval_1x0 a2 f s.1 s.2.1 s.2.2.1 s.2.2.2.1 s.2.2.2.2.1 s.2.2.2.2.2.1 s.2.2.2.2.2.2.1 s.2.2.2.2.2.2.2.1 s.2.2.2.2.2.2.2.2.1 s.2.2.2.2.2.2.2.2.2) ((IntKind.i64.wrap (a2 - a1)), (IntKind.i64.wrap (a3 - a2)), a0, a4x0x0, a4x0x1, a4x0x2, a4x0x3, a4x0x4, a4x0x5, a4x0x6))
  (fun s => J_slices_rotateCmpFunc_Lint_impl_eval_1x0 a2 s.1 s.2.1 s.2.2.1 s.2.2.2.1 s.2.2.2.2.1 s.2.2.2.2.2.1 s.2.2.2.2.2.2.1 s.2.2.2.2.2.2.2.1 s.2.2.2.2.2.2.2.2)) (F_slices_rotateCmpFunc_Lint_impl_eval_1 a0 a1 a2 a3 a4x0x0 a4x0x1 a4x0x2 a4x0x3 a4x0x4 a4x0x5 a4x0x6) := callL_le (tt := tt) (FT := FT) (SP := SP) (j := 107) rfl (by kernel_rfl)
noncomputable def L_slices_swapRangeCmpFunc_Lint_impl_eval_1x0 (a1 : Int) (a2 : Int) (a3 : Int) (a4x0x0 : Int) (a4x0x1 : ByteArray) (a4x0x2 : Int) (a4x0x3 : Int) (a4x0x4 : Int) (a4x0x5 : Bool) (a4x0x6 : List Int) (f0 : (Int × (List (List Int))) → Option ((List (List Int)) × Int × ByteArray × Int × Int × Int × Bool × (List Int))) (v1 : Int) (v2 : List (List Int)) : Option ((List (List Int)) × Int × ByteArray × Int × Int × Int × Bool × (List Int)) :=
  (bif (decide (v1 < a3)) then
  (inx v2.length (IntKind.i64.wrap (a2 + v1))).bind (fun z3 => (ix v2 (IntKind.i64.wrap (a2 + v1))).bind (fun z4 => (inx v2.length (IntKind.i64.wrap (a1 + v1))).bind (fun z5 => (ix v2 (IntKind.i64.wrap (a1 + v1))).bind (fun z6 => (inx v2.length (IntKind.i64.wrap (a1 + v1))).bind (fun z7 => (stx v2 (IntKind.i64.wrap (a1 + v1)) z4).bind (fun z8 => (inx v2.length (IntKind.i64.wrap (a2 + v1))).bind (fun z9 => (stx z8 (IntKind.i64.wrap (a2 + v1)) z6).bind (fun z10 => f0 ((IntKind.i64.wrap (v1 + 1)), z10)))))))))
  else some (v2, a4x0x0, a4x0x1, a4x0x2, a4x0x3, a4x0x4, a4x0x5, a4x0x6))
theorem U_slices_swapRangeCmpFunc_Lint_impl_eval_1 (a0 : List (List Int)) (a1 : Int) (a2 : Int) (a3 : Int) (a4x0x0 : Int) (a4x0x1 : ByteArray) (a4x0x2 : Int) (a4x0x3 : Int) (a4x0x4 : Int) (a4x0x5 : Bool) (a4x0x6 : List Int) : Le (loopF (fun f s => L_slices_swapRangeCmpFunc_Lint_impl_eval_1x0 a1 a2 a3 a4x0x0 a4x0x1 a4x0x2 a4x0x3 a4x0x4 a4x0x5 a4x0x6 f s.1 s.2) (0, a0)) (F_slices_swapRangeCmpFunc_Lint_impl_eval_1 a0 a1 a2 a3 a4x0x0 a4x0x1 a4x0x2 a4x0x3 a4x0x4 a4x0x5 a4x0x6) := callL_le (tt := tt) (FT := FT) (SP := SP) (j := 108) rfl (by kernel_rfl)
@[simp] noncomputable def J_impl_CountSamex1 (v2 : Int) (f0 : (Int × Int) → Option (Ex Int Int)) (v5 : Int) : Option (Ex Int Int) :=
  f0 (v5, (IntKind.i64.wrap (v2 + 1)))
noncomputable def L_impl_CountSamex0 (a0 : List (List Int)) (a1 : List Int) (f0 : (Int × Int) → Option (Ex Int Int)) (v1 : Int) (v2 : Int) : Option (Ex Int Int) :=
  (bif (decide (v2 < (a0.length : Int))) then
  joinK ((ix a0 v2).bind (fun z3 => (F_slices_Equal_Lint z3 a1).bind (fun y4 => (bif y4 then
  some (.go (IntKind.i64.wrap (v1 + 1)))
  else some (.go v1)))))
  (fun s => J_impl_CountSamex1 v2 f0 s)
  else some (.go v1))
@[simp] noncomputable def J_impl_CountSamex0 (v6 : Int) : Option Int :=
  some v6
theorem U_impl_CountSame (a0 : List (List Int)) (a1 : List Int) : Le (joinK (loopF (fun f s => L_impl_CountSamex0 a0 a1 f s.1 s.2) (0, 0))
  (fun s => J_impl_CountSamex0 s)) (F_impl_CountSame a0 a1) := callL_le (tt := tt) (FT := FT) (SP := SP) (j := 109) rfl (by kernel_rfl)
noncomputable def L_impl_ownRowsx0 (a0 : List (List Int)) (f0 : ((List (List Int)) × Int) → Option (Ex (List (List Int)) (List (List Int)))) (v1 : List (List Int)) (v2 : Int) : Option (Ex (List (List Int)) (List (List Int))) :=
  (bif (decide (v2 < (a0.length : Int))) then
  (ix a0 v2).bind (fun z3 => (F_slices_Clone_Lint z3).bind (fun y4 => (apx v1 ([y4])).bind (fun z5 => f0 (z5, (IntKind.i64.wrap (v2 + 1))))))
  else some (.go v1))
@[simp] noncomputable def J_impl_ownRowsx0 (v6 : List (List Int)) : Option (List (List Int)) :=
  some v6
theorem U_impl_ownRows (a0 : List (List Int)) : Le (joinK (loopF (fun f s => L_impl_ownRowsx0 a0 f s.1 s.2) ([], 0))
  (fun s => J_impl_ownRowsx0 s)) (F_impl_ownRows a0) := callL_le (tt := tt) (FT := FT) (SP := SP) (j := 110) rfl (by kernel_rfl)
theorem U_slices_Clone_Lint (a0 : List Int) : Le ((nilx a0.isEmpty
  (some ([]))
  ((apx ([]) a0).bind (fun z1 => some z1)))) (F_slices_Clone_Lint a0) := callL_le (tt := tt) (FT := FT) (SP := SP) (j := 111) rfl (by kernel_rfl)
theorem U_impl_SameRows (a0 : List (List Int)) (a1 : List (List Int)) : Le ((F_slices_EqualFunc_LLint_slices_Equal_Lint a0 a1).bind (fun y1 => some y1)) (F_impl_SameRows a0 a1) := callL_le (tt := tt) (FT := FT) (SP := SP) (j := 112) rfl (by kernel_rfl)
noncomputable def L_slices_EqualFunc_LLint_slices_Equal_Lintx0 (a0 : List (List Int)) (a1 : List (List Int)) (f0 : (Bool × Int) → Option (Ex Bool Bool)) (v1 : Bool) (v2 : Int) : Option (Ex Bool Bool) :=
  (bif (decide (v2 < (a0.length : Int))) then
  (ix a0 v2).bind (fun z3 => (ix a1 v2).bind (fun z4 => (F_slices_Equal_Lint z3 z4).bind (fun y5 => (bif (!y5) then
  some (.ret false)
  else f0 (v1, (IntKind.i64.wrap (v2 + 1)))))))
  else some (.go v1))
@[simp] noncomputable def J_slices_EqualFunc_LLint_slices_Equal_Lintx0 (v6 : Bool) : Option Bool :=
  some true
theorem U_slices_EqualFunc_LLint_slices_Equal_Lint (a0 : List (List Int)) (a1 : List (List Int)) : Le ((bif ((a0.length : Int) != (a1.length : Int)) then
  some false
  else joinK (loopF (fun f s => L_slices_EqualFunc_LLint_slices_Equal_Lintx0 a0 a1 f s.1 s.2) (false, 0))
  (fun s => J_slices_EqualFunc_LLint_slices_Equal_Lintx0 s))) (F_slices_EqualFunc_LLint_slices_Equal_Lint a0 a1) := callL_le (tt := tt) (FT := FT) (SP := SP) (j := 113) rfl (by kernel_rfl)
noncomputable def L_laws_eqTableSx0 (a0 : List STable) (a1 : List STable) (f0 : (Bool × Int) → Option (Ex Bool Bool)) (v1 : Bool) (v2 : Int) : Option (Ex Bool Bool) :=
  (bif (decide (v2 < (a0.length : Int))) then
  (ix a0 v2).bind (fun z3 => (ix a1 v2).bind (fun z4 => (F_laws_eqTable z3 z4).bind (fun y5 => (bif (!y5) then
  some (.ret false)
  else f0 (v1, (IntKind.i64.wrap (v2 + 1)))))))
  else some (.go v1))
@[simp] noncomputable def J_laws_eqTableSx0 (v6 : Bool) : Option Bool :=
  some true
theorem U_laws_eqTableS (a0 : List STable) (a1 : List STable) : Le ((bif ((a0.length : Int) != (a1.length : Int)) then
  some false
  else joinK (loopF (fun f s => L_laws_eqTableSx0 a0 a1 f s.1 s.2) (false, 0))
  (fun s => J_laws_eqTableSx0 s))) (F_laws_eqTableS a0 a1) := callL_le (tt := tt) (FT := FT) (SP := SP) (j := 114) rfl (by kernel_rfl)
theorem U_laws_eqTable (a0 : STable) (a1 : STable) : Le ((bif (!(a0.1.toList == a1.1.toList)) then
  some false
  else (bif (a0.2.1 != a1.2.1) then
  some false
  else some true))) (F_laws_eqTable a0 a1) := callL_le (tt := tt) (FT := FT) (SP := SP) (j := 115) rfl (by kernel_rfl)
noncomputable def L_laws_eqIntSSSx0 (a0 : List (List (List Int))) (a1 : List (List (List Int))) (f0 : (Bool × Int) → Option (Ex Bool Bool)) (v1 : Bool) (v2 : Int) : Option (Ex Bool Bool) :=
  (bif (decide (v2 < (a0.length : Int))) then
  (ix a0 v2).bind (fun z3 => (ix a1 v2).bind (fun z4 => (F_laws_eqIntSS z3 z4).bind (fun y5 => (bif (!y5) then
  some (.ret false)
  else f0 (v1, (IntKind.i64.wrap (v2 + 1)))))))
  else some (.go v1))
@[simp] noncomputable def J_laws_eqIntSSSx0 (v6 : Bool) : Option Bool :=
  some true
theorem U_laws_eqIntSSS (a0 : List (List (List Int))) (a1 : List (List (List Int))) : Le ((bif ((a0.length : Int) != (a1.length : Int)) then
  some false
  else joinK (loopF (fun f s => L_laws_eqIntSSSx0 a0 a1 f s.1 s.2) (false, 0))
  (fun s => J_laws_eqIntSSSx0 s))) (F_laws_eqIntSSS a0 a1) := callL_le (tt := tt) (FT := FT) (SP := SP) (j := 116) rfl (by kernel_rfl)
noncomputable def L_laws_eqIntSSx0 (a0 : List (List Int)) (a1 : List (List Int)) (f0 : (Bool × Int) → Option (Ex Bool Bool)) (v1 : Bool) (v2 : Int) : Option (Ex Bool Bool) :=
  (bif (decide (v2 < (a0.length : Int))) then
  (ix a0 v2).bind (fun z3 => (ix a1 v2).bind (fun z4 => (F_laws_eqIntS z3 z4).bind (fun y5 => (bif (!y5) then
  some (.ret false)
  else f0 (v1, (IntKind.i64.wrap (v2 + 1)))))))
  else some (.go v1))
@[simp] noncomputable def J_laws_eqIntSSx0 (v6 : Bool) : Option Bool :=
  some true
theorem U_laws_eqIntSS (a0 : List (List Int)) (a1 : List (List Int)) : Le ((bif ((a0.length : Int) != (a1.length : Int)) then
  some false
  else joinK (loopF (fun f s => L_laws_eqIntSSx0 a0 a1 f s.1 s.2) (false, 0))
  (fun s => J_laws_eqIntSSx0 s))) (F_laws_eqIntSS a0 a1) := callL_le (tt := tt) (FT := FT) (SP := SP) (j := 117) rfl (by kernel_rfl)
noncomputable def L_laws_eqIntSx0 (a0 : List Int) (a1 : List Int) (f0 : (Bool × Int) → Option (Ex Bool Bool)) (v1 : Bool) (v2 : Int) : Option (Ex Bool Bool) :=
  (bif (decide (v2 < (a0.length : Int))) then
  (ix a0 v2).bind (fun z3 => (ix a1 v2).bind (fun z4 => (bif (z3 != z4) then
  some (.ret false)
  else f0 (v1, (IntKind.i64.wrap (v2 + 1))))))
  else some (.go v1))
@[simp] noncomputable def J_laws_eqIntSx0 (v5 : Bool) : Option Bool :=
  some true
theorem U_laws_eqIntS (a0 : List Int) (a1 : List Int) : Le ((bif ((a0.length : Int) != (a1.length : Int)) then
  some false
  else joinK (loopF (fun f s => L_laws_eqIntSx0 a0 a1 f s.1 s.2) (false, 0))
  (fun s => J_laws_eqIntSx0 s))) (F_laws_eqIntS a0 a1) := callL_le (tt := tt) (FT := FT) (SP := SP) (j := 118) rfl (by kernel_rfl)
noncomputable def L_laws_eqOpSx0 (a0 : List SOp) (a1 : List SOp) (f0 : (Bool × Int) → Option (Ex Bool Bool)) (v1 : Bool) (v2 : Int) : Option (Ex Bool Bool) :=
  (bif (decide (v2 < (a0.length : Int))) then
  (ix a0 v2).bind (fun z3 => (ix a1 v2).bind (fun z4 => (F_laws_eqOp z3 z4).bind (fun y5 => (bif (!y5) then
  some (.ret false)
  else f0 (v1, (IntKind.i64.wrap (v2 + 1)))))))
  else some (.go v1))
@[simp] noncomputable def J_laws_eqOpSx0 (v6 : Bool) : Option Bool :=
  some true
theorem U_laws_eqOpS (a0 : List SOp) (a1 : List SOp) : Le ((bif ((a0.length : Int) != (a1.length : Int)) then
  some false
  else joinK (loopF (fun f s => L_laws_eqOpSx0 a0 a1 f s.1 s.2) (false, 0))
  (fun s => J_laws_eqOpSx0 s))) (F_laws_eqOpS a0 a1) := callL_le (tt := tt) (FT := FT) (SP := SP) (j := 119) rfl (by kernel_rfl)
theorem U_laws_eqOp (a0 : SOp) (a1 : SOp) : Le ((bif (a0.1 != a1.1) then
  some false
  else (F_laws_eqNodeS a0.2.1 a1.2.1).bind (fun y1 => (bif (!y1) then
  some false
  else (F_laws_eqNodeS a0.2.2.1 a1.2.2.1).bind (fun y2 => (bif (!y2) then
  some false
  else (F_laws_eqStepS a0.2.2.2.1 a1.2.2.2.1).bind (fun y3 => (bif (!y3) then
  some false
  else some true)))))))) (F_laws_eqOp a0 a1) := callL_le (tt := tt) (FT := FT) (SP := SP) (j := 120) rfl (by kernel_rfl)
noncomputable def L_laws_eqNodeSx0 (a0 : List SNode) (a1 : List SNode) (f0 : (Bool × Int) → Option (Ex Bool Bool)) (v1 : Bool) (v2 : Int) : Option (Ex Bool Bool) :=
  (bif (decide (v2 < (a0.length : Int))) then
  (ix a0 v2).bind (fun z3 => (ix a1 v2).bind (fun z4 => (F_laws_eqNode z3 z4).bind (fun y5 => (bif (!y5) then
  some (.ret false)
  else f0 (v1, (IntKind.i64.wrap (v2 + 1)))))))
  else some (.go v1))
@[simp] noncomputable def J_laws_eqNodeSx0 (v6 : Bool) : Option Bool :=
  some true
theorem U_laws_eqNodeS (a0 : List SNode) (a1 : List SNode) : Le ((bif ((a0.length : Int) != (a1.length : Int)) then
  some false
  else joinK (loopF (fun f s => L_laws_eqNodeSx0 a0 a1 f s.1 s.2) (false, 0))
  (fun s => J_laws_eqNodeSx0 s))) (F_laws_eqNodeS a0 a1) := callL_le (tt := tt) (FT := FT) (SP := SP) (j := 121) rfl (by kernel_rfl)
theorem U_laws_eqNode (a0 : SNode) (a1 : SNode) : Le ((bif (a0.1 != a1.1) then
  some false
  else (bif (!(a0.2.1.toList == a1.2.1.toList)) then
  some false
  else (bif (a0.2.2.1 != a1.2.2.1) then
  some false
  else (bif (a0.2.2.2.1 != a1.2.2.2.1) then
  some false
  else (bif (a0.2.2.2.2.1 != a1.2.2.2.2.1) then
  some false
  else (bif (a0.2.2.2.2.2.1 != a1.2.2.2.2.2.1) then
  some false
  else (F_laws_eqIntS a0.2.2.2.2.2.2.1 a1.2.2.2.2.2.2.1).bind (fun y1 => (bif (!y1) then
  some false
  else some true))))))))) (F_laws_eqNode a0 a1) := callL_le (tt := tt) (FT := FT) (SP := SP) (j := 122) rfl (by kernel_rfl)
noncomputable def L_laws_eqStepSx0 (a0 : List SStep) (a1 : List SStep) (f0 : (Bool × Int) → Option (Ex Bool Bool)) (v1 : Bool) (v2 : Int) : Option (Ex Bool Bool) :=
  (bif (decide (v2 < (a0.length : Int))) then
  (ix a0 v2).bind (fun z3 => (ix a1 v2).bind (fun z4 => (F_laws_eqStep z3 z4).bind (fun y5 => (bif (!y5) then
  some (.ret false)
  else f0 (v1, (IntKind.i64.wrap (v2 + 1)))))))
  else some (.go v1))
@[simp] noncomputable def J_laws_eqStepSx0 (v6 : Bool) : Option Bool :=
  some true
theorem U_laws_eqStepS (a0 : List SStep) (a1 : List SStep) : Le ((bif ((a0.length : Int) != (a1.length : Int)) then
  some false
  else joinK (loopF (fun f s => L_laws_eqStepSx0 a0 a1 f s.1 s.2) (false, 0))
  (fun s => J_laws_eqStepSx0 s))) (F_laws_eqStepS a0 a1) := callL_le (tt := tt) (FT := FT) (SP := SP) (j := 123) rfl (by kernel_rfl)
theorem U_laws_eqStep (a0 : SStep) (a1 : SStep) : Le ((bif (a0.1 != a1.1) then
  some false
  else (bif (a0.2.1 != a1.2.1) then
  some false
  else some true))) (F_laws_eqStep a0 a1) := callL_le (tt := tt) (FT := FT) (SP := SP) (j := 124) rfl (by kernel_rfl)
noncomputable def L_laws_eqNodeSSx0 (a0 : List (List SNode)) (a1 : List (List SNode)) (f0 : (Bool × Int) → Option (Ex Bool Bool)) (v1 : Bool) (v2 : Int) : Option (Ex Bool Bool) :=
  (bif (decide (v2 < (a0.length : Int))) then
  (ix a0 v2).bind (fun z3 => (ix a1 v2).bind (fun z4 => (F_laws_eqNodeS z3 z4).bind (fun y5 => (bif (!y5) then
  some (.ret false)
  else f0 (v1, (IntKind.i64.wrap (v2 + 1)))))))
  else some (.go v1))
@[simp] noncomputable def J_laws_eqNodeSSx0 (v6 : Bool) : Option Bool :=
  some true
theorem U_laws_eqNodeSS (a0 : List (List SNode)) (a1 : List (List SNode)) : Le ((bif ((a0.length : Int) != (a1.length : Int)) then
  some false
  else joinK (loopF (fun f s => L_laws_eqNodeSSx0 a0 a1 f s.1 s.2) (false, 0))
  (fun s => J_laws_eqNodeSSx0 s))) (F_laws_eqNodeSS a0 a1) := callL_le (tt := tt) (FT := FT) (SP := SP) (j := 125) rfl (by kernel_rfl)
end Go.Proofs.YtcmlkddmohgakaaGreatX
