/- Printed: for each function that the statement reaches, a plain function, and that it is what the program's function answers. -/
import Derived.Test.YtglbcdlplbomdaaProg
import Derived.Test.YtglbcdlplbomdaaTrC
set_option linter.all false
namespace Go.Proofs.YtglbcdlplbomdaaX
open Go Go.Proofs Go.Proofs.YtglbcdlplbomdaaT
set_option maxRecDepth 100000
set_option linter.all false
abbrev STable := ByteArray × Int × Unit
abbrev SNode := Int × ByteArray × Int × Int × Int × Bool × (List Int) × Unit
abbrev SStep := Int × Int × Unit
abbrev SOp := Int × (List SNode) × (List SNode) × (List SStep) × Unit
def ttL : List (Nat × Ty) := [(3, (.int .i64)),
  (4, .bool),
  (5, (.int .u8)),
  (9, .str),
  (22, (.sl 66 (.pr .str (.pr (.int .i64) .un)))),
  (23, (.sl 3 (.int .i64))),
  (24, (.sl 69 (.pr (.int .i64) (.pr .str (.pr (.int .i64) (.pr (.int .i64) (.pr (.int .i64) (.pr .bool (.pr (.sl 3 (.int .i64)) .un))))))))),
  (28, (.sl 71 (.pr .str (.pr (.int .i64) .un)))),
  (31, (.sl 73 (.pr (.int .i64) (.pr .str (.pr (.int .i64) (.pr (.int .i64) (.pr (.int .i64) (.pr .bool (.pr (.sl 3 (.int .i64)) .un))))))))),
  (37, (.sl 83 (.pr (.int .i64) (.pr (.sl 69 (.pr (.int .i64) (.pr .str (.pr (.int .i64) (.pr (.int .i64) (.pr (.int .i64) (.pr .bool (.pr (.sl 3 (.int .i64)) .un)))))))) (.pr (.sl 69 (.pr (.int .i64) (.pr .str (.pr (.int .i64) (.pr (.int .i64) (.pr (.int .i64) (.pr .bool (.pr (.sl 3 (.int .i64)) .un)))))))) (.pr (.sl 124 (.pr (.int .i64) (.pr (.int .i64) .un))) .un)))))),
  (39, (.sl 85 (.pr (.int .i64) (.pr (.sl 73 (.pr (.int .i64) (.pr .str (.pr (.int .i64) (.pr (.int .i64) (.pr (.int .i64) (.pr .bool (.pr (.sl 3 (.int .i64)) .un)))))))) (.pr (.sl 73 (.pr (.int .i64) (.pr .str (.pr (.int .i64) (.pr (.int .i64) (.pr (.int .i64) (.pr .bool (.pr (.sl 3 (.int .i64)) .un)))))))) (.pr (.sl 50 (.pr (.int .i64) (.pr (.int .i64) .un))) .un)))))),
  (50, (.pr (.int .i64) (.pr (.int .i64) .un))),
  (54, (.sl 50 (.pr (.int .i64) (.pr (.int .i64) .un)))),
  (66, (.pr .str (.pr (.int .i64) .un))),
  (69, (.pr (.int .i64) (.pr .str (.pr (.int .i64) (.pr (.int .i64) (.pr (.int .i64) (.pr .bool (.pr (.sl 3 (.int .i64)) .un)))))))),
  (71, (.pr .str (.pr (.int .i64) .un))),
  (73, (.pr (.int .i64) (.pr .str (.pr (.int .i64) (.pr (.int .i64) (.pr (.int .i64) (.pr .bool (.pr (.sl 3 (.int .i64)) .un)))))))),
  (81, (.sl 124 (.pr (.int .i64) (.pr (.int .i64) .un)))),
  (83, (.pr (.int .i64) (.pr (.sl 69 (.pr (.int .i64) (.pr .str (.pr (.int .i64) (.pr (.int .i64) (.pr (.int .i64) (.pr .bool (.pr (.sl 3 (.int .i64)) .un)))))))) (.pr (.sl 69 (.pr (.int .i64) (.pr .str (.pr (.int .i64) (.pr (.int .i64) (.pr (.int .i64) (.pr .bool (.pr (.sl 3 (.int .i64)) .un)))))))) (.pr (.sl 124 (.pr (.int .i64) (.pr (.int .i64) .un))) .un))))),
  (85, (.pr (.int .i64) (.pr (.sl 73 (.pr (.int .i64) (.pr .str (.pr (.int .i64) (.pr (.int .i64) (.pr (.int .i64) (.pr .bool (.pr (.sl 3 (.int .i64)) .un)))))))) (.pr (.sl 73 (.pr (.int .i64) (.pr .str (.pr (.int .i64) (.pr (.int .i64) (.pr (.int .i64) (.pr .bool (.pr (.sl 3 (.int .i64)) .un)))))))) (.pr (.sl 50 (.pr (.int .i64) (.pr (.int .i64) .un))) .un))))),
  (112, (.sl 5 (.int .u8))),
  (124, (.pr (.int .i64) (.pr (.int .i64) .un)))]
def tt (T : TypeId) : Option Ty := lkT ttL T
theorem tt_ok : TTok Try.prog tt := lkT_ok (by kernel_rfl)
noncomputable def i_laws_FnExactOnlyDirect : Inst := { f := 5, fn := Try.f5, n := 92, pds := [.rd (.sl 66 (.pr .str (.pr (.int .i64) .un))), .rd (.sl 83 (.pr (.int .i64) (.pr (.sl 69 (.pr (.int .i64) (.pr .str (.pr (.int .i64) (.pr (.int .i64) (.pr (.int .i64) (.pr .bool (.pr (.sl 3 (.int .i64)) .un)))))))) (.pr (.sl 69 (.pr (.int .i64) (.pr .str (.pr (.int .i64) (.pr (.int .i64) (.pr (.int .i64) (.pr .bool (.pr (.sl 3 (.int .i64)) .un)))))))) (.pr (.sl 124 (.pr (.int .i64) (.pr (.int .i64) .un))) .un)))))], caps := [], res := [⟨false, false, .bool⟩], h := { al := [33, 34, 36, 37, 40, 45, 50, 53, 59, 60, 64, 67, 80, 81, 84], el := [], tk := [], nn := [], ca := [(16, 1), (21, 3), (25, 9), (27, 11), (28, 18), (30, 9), (32, 11), (35, 35), (38, 62), (42, 9), (43, 69), (47, 11), (48, 62), (52, 71), (55, 73), (61, 62), (66, 73), (69, 77), (76, 9), (78, 11), (79, 35), (82, 62), (86, 77)], code := (.two .nil (.two .nil (.two .nil (.two .nil (.two .nil (.two .nil (.two .nil (.two .nil (.two .nil (.two .nil (.two .nil (.two .nil (.two .nil (.two .nil (.two .nil (.two .nil (.two (.join ⟨[], [(63, .v ⟨false, false, .bool⟩)]⟩ .nil .nil) .nil))))))))))))))))) } }
noncomputable def i_laws_szTableS : Inst := { f := 13, fn := Try.f13, n := 27, pds := [.rd (.sl 66 (.pr .str (.pr (.int .i64) .un))), .rd (.int .i64)], caps := [], res := [⟨false, false, (.int .i64)⟩], h := { al := [], el := [], tk := [], nn := [], ca := [(23, 2)], code := (.two .nil (.two .nil (.two .nil (.join ⟨[1, 4], [(1, .v ⟨false, false, (.int .i64)⟩), (4, .v ⟨false, false, (.int .i64)⟩)]⟩ (.two .nil (.loop ⟨[1, 4, 5], [(1, .v ⟨false, false, (.int .i64)⟩), (4, .v ⟨false, false, (.int .i64)⟩), (5, .v ⟨false, false, (.int .i64)⟩)]⟩ .nil)) .nil)))) } }
noncomputable def i_laws_szTable : Inst := { f := 54, fn := Try.f54, n := 13, pds := [.rd (.pr .str (.pr (.int .i64) .un)), .rd (.int .i64)], caps := [], res := [⟨false, false, (.int .i64)⟩], h := { al := [], el := [], tk := [], nn := [], ca := [], code := .nil } }
noncomputable def i_laws_szOpS : Inst := { f := 25, fn := Try.f25, n := 27, pds := [.rd (.sl 83 (.pr (.int .i64) (.pr (.sl 69 (.pr (.int .i64) (.pr .str (.pr (.int .i64) (.pr (.int .i64) (.pr (.int .i64) (.pr .bool (.pr (.sl 3 (.int .i64)) .un)))))))) (.pr (.sl 69 (.pr (.int .i64) (.pr .str (.pr (.int .i64) (.pr (.int .i64) (.pr (.int .i64) (.pr .bool (.pr (.sl 3 (.int .i64)) .un)))))))) (.pr (.sl 124 (.pr (.int .i64) (.pr (.int .i64) .un))) .un))))), .rd (.int .i64)], caps := [], res := [⟨false, false, (.int .i64)⟩], h := { al := [], el := [], tk := [], nn := [], ca := [(23, 4)], code := (.two .nil (.two .nil (.two .nil (.join ⟨[1, 4], [(1, .v ⟨false, false, (.int .i64)⟩), (4, .v ⟨false, false, (.int .i64)⟩)]⟩ (.two .nil (.loop ⟨[1, 4, 5], [(1, .v ⟨false, false, (.int .i64)⟩), (4, .v ⟨false, false, (.int .i64)⟩), (5, .v ⟨false, false, (.int .i64)⟩)]⟩ .nil)) .nil)))) } }
noncomputable def i_laws_szOp : Inst := { f := 64, fn := Try.f64, n := 24, pds := [.rd (.pr (.int .i64) (.pr (.sl 69 (.pr (.int .i64) (.pr .str (.pr (.int .i64) (.pr (.int .i64) (.pr (.int .i64) (.pr .bool (.pr (.sl 3 (.int .i64)) .un)))))))) (.pr (.sl 69 (.pr (.int .i64) (.pr .str (.pr (.int .i64) (.pr (.int .i64) (.pr (.int .i64) (.pr .bool (.pr (.sl 3 (.int .i64)) .un)))))))) (.pr (.sl 124 (.pr (.int .i64) (.pr (.int .i64) .un))) .un)))), .rd (.int .i64)], caps := [], res := [⟨false, false, (.int .i64)⟩], h := { al := [], el := [], tk := [], nn := [], ca := [(8, 5), (14, 5), (20, 8)], code := .nil } }
noncomputable def i_laws_szNodeS : Inst := { f := 14, fn := Try.f14, n := 27, pds := [.rd (.sl 69 (.pr (.int .i64) (.pr .str (.pr (.int .i64) (.pr (.int .i64) (.pr (.int .i64) (.pr .bool (.pr (.sl 3 (.int .i64)) .un)))))))), .rd (.int .i64)], caps := [], res := [⟨false, false, (.int .i64)⟩], h := { al := [], el := [], tk := [], nn := [], ca := [(23, 6)], code := (.two .nil (.two .nil (.two .nil (.join ⟨[1, 4], [(1, .v ⟨false, false, (.int .i64)⟩), (4, .v ⟨false, false, (.int .i64)⟩)]⟩ (.two .nil (.loop ⟨[1, 4, 5], [(1, .v ⟨false, false, (.int .i64)⟩), (4, .v ⟨false, false, (.int .i64)⟩), (5, .v ⟨false, false, (.int .i64)⟩)]⟩ .nil)) .nil)))) } }
noncomputable def i_laws_szNode : Inst := { f := 55, fn := Try.f55, n := 19, pds := [.rd (.pr (.int .i64) (.pr .str (.pr (.int .i64) (.pr (.int .i64) (.pr (.int .i64) (.pr .bool (.pr (.sl 3 (.int .i64)) .un))))))), .rd (.int .i64)], caps := [], res := [⟨false, false, (.int .i64)⟩], h := { al := [], el := [], tk := [], nn := [], ca := [(15, 7)], code := .nil } }
noncomputable def i_laws_szIntS : Inst := { f := 83, fn := Try.f83, n := 12, pds := [.rd (.sl 3 (.int .i64)), .rd (.int .i64)], caps := [], res := [⟨false, false, (.int .i64)⟩], h := { al := [], el := [], tk := [], nn := [], ca := [], code := .nil } }
noncomputable def i_laws_szStepS : Inst := { f := 90, fn := Try.f90, n := 12, pds := [.rd (.sl 124 (.pr (.int .i64) (.pr (.int .i64) .un))), .rd (.int .i64)], caps := [], res := [⟨false, false, (.int .i64)⟩], h := { al := [], el := [], tk := [], nn := [], ca := [], code := .nil } }
noncomputable def i_laws_toTableS : Inst := { f := 16, fn := Try.f16, n := 23, pds := [.rd (.sl 66 (.pr .str (.pr (.int .i64) .un)))], caps := [], res := [⟨true, true, (.sl 71 (.pr .str (.pr (.int .i64) .un)))⟩], h := { al := [14], el := [21], tk := [], nn := [], ca := [(20, 10)], code := (.two .nil (.two .nil (.join ⟨[3], [(3, .v ⟨true, true, (.sl 71 (.pr .str (.pr (.int .i64) .un)))⟩)]⟩ (.two .nil (.loop ⟨[3, 4], [(3, .v ⟨true, true, (.sl 71 (.pr .str (.pr (.int .i64) .un)))⟩), (4, .v ⟨false, false, (.int .i64)⟩)]⟩ .nil)) .nil))) } }
noncomputable def i_laws_toTable : Inst := { f := 58, fn := Try.f58, n := 11, pds := [.rd (.pr .str (.pr (.int .i64) .un))], caps := [], res := [⟨false, false, (.pr .str (.pr (.int .i64) .un))⟩], h := { al := [], el := [], tk := [], nn := [], ca := [], code := .nil } }
noncomputable def i_laws_toOpS : Inst := { f := 27, fn := Try.f27, n := 23, pds := [.rd (.sl 83 (.pr (.int .i64) (.pr (.sl 69 (.pr (.int .i64) (.pr .str (.pr (.int .i64) (.pr (.int .i64) (.pr (.int .i64) (.pr .bool (.pr (.sl 3 (.int .i64)) .un)))))))) (.pr (.sl 69 (.pr (.int .i64) (.pr .str (.pr (.int .i64) (.pr (.int .i64) (.pr (.int .i64) (.pr .bool (.pr (.sl 3 (.int .i64)) .un)))))))) (.pr (.sl 124 (.pr (.int .i64) (.pr (.int .i64) .un))) .un)))))], caps := [], res := [⟨true, true, (.sl 85 (.pr (.int .i64) (.pr (.sl 73 (.pr (.int .i64) (.pr .str (.pr (.int .i64) (.pr (.int .i64) (.pr (.int .i64) (.pr .bool (.pr (.sl 3 (.int .i64)) .un)))))))) (.pr (.sl 73 (.pr (.int .i64) (.pr .str (.pr (.int .i64) (.pr (.int .i64) (.pr (.int .i64) (.pr .bool (.pr (.sl 3 (.int .i64)) .un)))))))) (.pr (.sl 50 (.pr (.int .i64) (.pr (.int .i64) .un))) .un)))))⟩], h := { al := [14], el := [21], tk := [], nn := [], ca := [(20, 12)], code := (.two .nil (.two .nil (.join ⟨[3], [(3, .v ⟨true, true, (.sl 85 (.pr (.int .i64) (.pr (.sl 73 (.pr (.int .i64) (.pr .str (.pr (.int .i64) (.pr (.int .i64) (.pr (.int .i64) (.pr .bool (.pr (.sl 3 (.int .i64)) .un)))))))) (.pr (.sl 73 (.pr (.int .i64) (.pr .str (.pr (.int .i64) (.pr (.int .i64) (.pr (.int .i64) (.pr .bool (.pr (.sl 3 (.int .i64)) .un)))))))) (.pr (.sl 50 (.pr (.int .i64) (.pr (.int .i64) .un))) .un)))))⟩)]⟩ (.two .nil (.loop ⟨[3, 4], [(3, .v ⟨true, true, (.sl 85 (.pr (.int .i64) (.pr (.sl 73 (.pr (.int .i64) (.pr .str (.pr (.int .i64) (.pr (.int .i64) (.pr (.int .i64) (.pr .bool (.pr (.sl 3 (.int .i64)) .un)))))))) (.pr (.sl 73 (.pr (.int .i64) (.pr .str (.pr (.int .i64) (.pr (.int .i64) (.pr (.int .i64) (.pr .bool (.pr (.sl 3 (.int .i64)) .un)))))))) (.pr (.sl 50 (.pr (.int .i64) (.pr (.int .i64) .un))) .un)))))⟩), (4, .v ⟨false, false, (.int .i64)⟩)]⟩ .nil)) .nil))) } }
noncomputable def i_laws_toOp : Inst := { f := 67, fn := Try.f67, n := 20, pds := [.rd (.pr (.int .i64) (.pr (.sl 69 (.pr (.int .i64) (.pr .str (.pr (.int .i64) (.pr (.int .i64) (.pr (.int .i64) (.pr .bool (.pr (.sl 3 (.int .i64)) .un)))))))) (.pr (.sl 69 (.pr (.int .i64) (.pr .str (.pr (.int .i64) (.pr (.int .i64) (.pr (.int .i64) (.pr .bool (.pr (.sl 3 (.int .i64)) .un)))))))) (.pr (.sl 124 (.pr (.int .i64) (.pr (.int .i64) .un))) .un))))], caps := [], res := [⟨true, true, (.pr (.int .i64) (.pr (.sl 73 (.pr (.int .i64) (.pr .str (.pr (.int .i64) (.pr (.int .i64) (.pr (.int .i64) (.pr .bool (.pr (.sl 3 (.int .i64)) .un)))))))) (.pr (.sl 73 (.pr (.int .i64) (.pr .str (.pr (.int .i64) (.pr (.int .i64) (.pr (.int .i64) (.pr .bool (.pr (.sl 3 (.int .i64)) .un)))))))) (.pr (.sl 50 (.pr (.int .i64) (.pr (.int .i64) .un))) .un))))⟩], h := { al := [], el := [], tk := [19], nn := [], ca := [(9, 13), (13, 13), (17, 16)], code := .nil } }
noncomputable def i_laws_toNodeS : Inst := { f := 18, fn := Try.f18, n := 23, pds := [.rd (.sl 69 (.pr (.int .i64) (.pr .str (.pr (.int .i64) (.pr (.int .i64) (.pr (.int .i64) (.pr .bool (.pr (.sl 3 (.int .i64)) .un))))))))], caps := [], res := [⟨true, true, (.sl 73 (.pr (.int .i64) (.pr .str (.pr (.int .i64) (.pr (.int .i64) (.pr (.int .i64) (.pr .bool (.pr (.sl 3 (.int .i64)) .un))))))))⟩], h := { al := [14], el := [21], tk := [], nn := [], ca := [(20, 14)], code := (.two .nil (.two .nil (.join ⟨[3], [(3, .v ⟨true, true, (.sl 73 (.pr (.int .i64) (.pr .str (.pr (.int .i64) (.pr (.int .i64) (.pr (.int .i64) (.pr .bool (.pr (.sl 3 (.int .i64)) .un))))))))⟩)]⟩ (.two .nil (.loop ⟨[3, 4], [(3, .v ⟨true, true, (.sl 73 (.pr (.int .i64) (.pr .str (.pr (.int .i64) (.pr (.int .i64) (.pr (.int .i64) (.pr .bool (.pr (.sl 3 (.int .i64)) .un))))))))⟩), (4, .v ⟨false, false, (.int .i64)⟩)]⟩ .nil)) .nil))) } }
noncomputable def i_laws_toNode : Inst := { f := 59, fn := Try.f59, n := 27, pds := [.rd (.pr (.int .i64) (.pr .str (.pr (.int .i64) (.pr (.int .i64) (.pr (.int .i64) (.pr .bool (.pr (.sl 3 (.int .i64)) .un)))))))], caps := [], res := [⟨true, true, (.pr (.int .i64) (.pr .str (.pr (.int .i64) (.pr (.int .i64) (.pr (.int .i64) (.pr .bool (.pr (.sl 3 (.int .i64)) .un)))))))⟩], h := { al := [], el := [], tk := [26], nn := [], ca := [(24, 15)], code := .nil } }
noncomputable def i_laws_toIntS : Inst := { f := 17, fn := Try.f17, n := 22, pds := [.rd (.sl 3 (.int .i64))], caps := [], res := [⟨true, true, (.sl 3 (.int .i64))⟩], h := { al := [14], el := [20], tk := [], nn := [], ca := [], code := (.two .nil (.two .nil (.join ⟨[3], [(3, .v ⟨true, true, (.sl 3 (.int .i64))⟩)]⟩ (.two .nil (.loop ⟨[3, 4], [(3, .v ⟨true, true, (.sl 3 (.int .i64))⟩), (4, .v ⟨false, false, (.int .i64)⟩)]⟩ .nil)) .nil))) } }
noncomputable def i_laws_toStepS : Inst := { f := 93, fn := Try.f93, n := 23, pds := [.rd (.sl 124 (.pr (.int .i64) (.pr (.int .i64) .un)))], caps := [], res := [⟨true, true, (.sl 50 (.pr (.int .i64) (.pr (.int .i64) .un)))⟩], h := { al := [14], el := [21], tk := [], nn := [], ca := [(20, 17)], code := (.two .nil (.two .nil (.join ⟨[3], [(3, .v ⟨true, true, (.sl 50 (.pr (.int .i64) (.pr (.int .i64) .un)))⟩)]⟩ (.two .nil (.loop ⟨[3, 4], [(3, .v ⟨true, true, (.sl 50 (.pr (.int .i64) (.pr (.int .i64) .un)))⟩), (4, .v ⟨false, false, (.int .i64)⟩)]⟩ .nil)) .nil))) } }
noncomputable def i_laws_toStep : Inst := { f := 117, fn := Try.f117, n := 11, pds := [.rd (.pr (.int .i64) (.pr (.int .i64) .un))], caps := [], res := [⟨false, false, (.pr (.int .i64) (.pr (.int .i64) .un))⟩], h := { al := [], el := [], tk := [], nn := [], ca := [], code := .nil } }
noncomputable def i_spec_OnlyDirect : Inst := { f := 26, fn := Try.f26, n := 44, pds := [.rd (.sl 71 (.pr .str (.pr (.int .i64) .un))), .rd (.sl 85 (.pr (.int .i64) (.pr (.sl 73 (.pr (.int .i64) (.pr .str (.pr (.int .i64) (.pr (.int .i64) (.pr (.int .i64) (.pr .bool (.pr (.sl 3 (.int .i64)) .un)))))))) (.pr (.sl 73 (.pr (.int .i64) (.pr .str (.pr (.int .i64) (.pr (.int .i64) (.pr (.int .i64) (.pr .bool (.pr (.sl 3 (.int .i64)) .un)))))))) (.pr (.sl 50 (.pr (.int .i64) (.pr (.int .i64) .un))) .un)))))], caps := [], res := [⟨true, true, (.sl 85 (.pr (.int .i64) (.pr (.sl 73 (.pr (.int .i64) (.pr .str (.pr (.int .i64) (.pr (.int .i64) (.pr (.int .i64) (.pr .bool (.pr (.sl 3 (.int .i64)) .un)))))))) (.pr (.sl 73 (.pr (.int .i64) (.pr .str (.pr (.int .i64) (.pr (.int .i64) (.pr (.int .i64) (.pr .bool (.pr (.sl 3 (.int .i64)) .un)))))))) (.pr (.sl 50 (.pr (.int .i64) (.pr (.int .i64) .un))) .un)))))⟩], h := { al := [], el := [], tk := [40], nn := [], ca := [(22, 19), (26, 22)], code := (.two .nil (.two .nil (.join ⟨[5], [(5, .v ⟨true, true, (.sl 85 (.pr (.int .i64) (.pr (.sl 73 (.pr (.int .i64) (.pr .str (.pr (.int .i64) (.pr (.int .i64) (.pr (.int .i64) (.pr .bool (.pr (.sl 3 (.int .i64)) .un)))))))) (.pr (.sl 73 (.pr (.int .i64) (.pr .str (.pr (.int .i64) (.pr (.int .i64) (.pr (.int .i64) (.pr .bool (.pr (.sl 3 (.int .i64)) .un)))))))) (.pr (.sl 50 (.pr (.int .i64) (.pr (.int .i64) .un))) .un)))))⟩)]⟩ (.two .nil (.loop ⟨[5, 6], [(5, .v ⟨true, true, (.sl 85 (.pr (.int .i64) (.pr (.sl 73 (.pr (.int .i64) (.pr .str (.pr (.int .i64) (.pr (.int .i64) (.pr (.int .i64) (.pr .bool (.pr (.sl 3 (.int .i64)) .un)))))))) (.pr (.sl 73 (.pr (.int .i64) (.pr .str (.pr (.int .i64) (.pr (.int .i64) (.pr (.int .i64) (.pr .bool (.pr (.sl 3 (.int .i64)) .un)))))))) (.pr (.sl 50 (.pr (.int .i64) (.pr (.int .i64) .un))) .un)))))⟩), (6, .v ⟨false, false, (.int .i64)⟩)]⟩ (.two .nil (.two (.two .nil (.two .nil (.join ⟨[7, 8, 24, 25], [(7, .bx 85 [⟨true, true, (.int .i64)⟩, ⟨true, true, (.sl 73 (.pr (.int .i64) (.pr .str (.pr (.int .i64) (.pr (.int .i64) (.pr (.int .i64) (.pr .bool (.pr (.sl 3 (.int .i64)) .un))))))))⟩, ⟨true, true, (.sl 73 (.pr (.int .i64) (.pr .str (.pr (.int .i64) (.pr (.int .i64) (.pr (.int .i64) (.pr .bool (.pr (.sl 3 (.int .i64)) .un))))))))⟩, ⟨true, true, (.sl 50 (.pr (.int .i64) (.pr (.int .i64) .un)))⟩])]⟩ (.join ⟨[], [(35, .v ⟨false, false, .bool⟩)]⟩ .nil .nil) .nil))) .nil)))) .nil))) } }
noncomputable def i_spec_l11Op : Inst := { f := 65, fn := Try.f65, n := 32, pds := [.rd (.pr (.int .i64) (.pr (.sl 73 (.pr (.int .i64) (.pr .str (.pr (.int .i64) (.pr (.int .i64) (.pr (.int .i64) (.pr .bool (.pr (.sl 3 (.int .i64)) .un)))))))) (.pr (.sl 73 (.pr (.int .i64) (.pr .str (.pr (.int .i64) (.pr (.int .i64) (.pr (.int .i64) (.pr .bool (.pr (.sl 3 (.int .i64)) .un)))))))) (.pr (.sl 50 (.pr (.int .i64) (.pr (.int .i64) .un))) .un))))], caps := [], res := [⟨true, true, (.pr (.int .i64) (.pr (.sl 73 (.pr (.int .i64) (.pr .str (.pr (.int .i64) (.pr (.int .i64) (.pr (.int .i64) (.pr .bool (.pr (.sl 3 (.int .i64)) .un)))))))) (.pr (.sl 73 (.pr (.int .i64) (.pr .str (.pr (.int .i64) (.pr (.int .i64) (.pr (.int .i64) (.pr .bool (.pr (.sl 3 (.int .i64)) .un)))))))) (.pr (.sl 50 (.pr (.int .i64) (.pr (.int .i64) .un))) .un))))⟩], h := { al := [], el := [], tk := [22, 31], nn := [], ca := [(9, 20), (12, 20)], code := (.two .nil (.two .nil (.join ⟨[3], [(3, .bx 85 [⟨true, true, (.int .i64)⟩, ⟨true, true, (.sl 73 (.pr (.int .i64) (.pr .str (.pr (.int .i64) (.pr (.int .i64) (.pr (.int .i64) (.pr .bool (.pr (.sl 3 (.int .i64)) .un))))))))⟩, ⟨true, true, (.sl 73 (.pr (.int .i64) (.pr .str (.pr (.int .i64) (.pr (.int .i64) (.pr (.int .i64) (.pr .bool (.pr (.sl 3 (.int .i64)) .un))))))))⟩, ⟨true, true, (.sl 50 (.pr (.int .i64) (.pr (.int .i64) .un)))⟩])]⟩ (.two .nil (.loop ⟨[3, 4], [(3, .bx 85 [⟨true, true, (.int .i64)⟩, ⟨true, true, (.sl 73 (.pr (.int .i64) (.pr .str (.pr (.int .i64) (.pr (.int .i64) (.pr (.int .i64) (.pr .bool (.pr (.sl 3 (.int .i64)) .un))))))))⟩, ⟨true, true, (.sl 73 (.pr (.int .i64) (.pr .str (.pr (.int .i64) (.pr (.int .i64) (.pr (.int .i64) (.pr .bool (.pr (.sl 3 (.int .i64)) .un))))))))⟩, ⟨true, true, (.sl 50 (.pr (.int .i64) (.pr (.int .i64) .un)))⟩]), (4, .v ⟨false, false, (.int .i64)⟩)]⟩ .nil)) .nil))) } }
noncomputable def i_spec_l02Copy : Inst := { f := 77, fn := Try.f77, n := 37, pds := [.rd (.sl 73 (.pr (.int .i64) (.pr .str (.pr (.int .i64) (.pr (.int .i64) (.pr (.int .i64) (.pr .bool (.pr (.sl 3 (.int .i64)) .un))))))))], caps := [], res := [⟨true, true, (.sl 73 (.pr (.int .i64) (.pr .str (.pr (.int .i64) (.pr (.int .i64) (.pr (.int .i64) (.pr .bool (.pr (.sl 3 (.int .i64)) .un))))))))⟩], h := { al := [], el := [], tk := [33], nn := [], no := true, ca := [(30, 21)], code := (.two .nil (.two .nil (.join ⟨[3], [(3, .v ⟨true, true, (.sl 73 (.pr (.int .i64) (.pr .str (.pr (.int .i64) (.pr (.int .i64) (.pr (.int .i64) (.pr .bool (.pr (.sl 3 (.int .i64)) .un))))))))⟩)]⟩ (.two .nil (.loop ⟨[3, 4], [(3, .v ⟨true, true, (.sl 73 (.pr (.int .i64) (.pr .str (.pr (.int .i64) (.pr (.int .i64) (.pr (.int .i64) (.pr .bool (.pr (.sl 3 (.int .i64)) .un))))))))⟩), (4, .v ⟨false, false, (.int .i64)⟩)]⟩ (.two .nil (.two (.two .nil (.two .nil (.join ⟨[5, 17], [(5, .bx 73 [⟨false, false, (.int .i64)⟩, ⟨false, false, .str⟩, ⟨false, false, (.int .i64)⟩, ⟨false, false, (.int .i64)⟩, ⟨false, false, (.int .i64)⟩, ⟨false, false, .bool⟩, ⟨true, true, (.sl 3 (.int .i64))⟩])]⟩ .nil .nil))) .nil)))) .nil))) } }
noncomputable def i_spec_l01Copy : Inst := { f := 108, fn := Try.f108, n := 20, pds := [.rd (.sl 3 (.int .i64))], caps := [], res := [⟨true, true, (.sl 3 (.int .i64))⟩], h := { al := [], el := [], tk := [], nn := [], ca := [], code := (.two .nil (.two .nil (.join ⟨[3], [(3, .v ⟨true, true, (.sl 3 (.int .i64))⟩)]⟩ (.two .nil (.loop ⟨[3, 4], [(3, .v ⟨true, true, (.sl 3 (.int .i64))⟩), (4, .v ⟨false, false, (.int .i64)⟩)]⟩ .nil)) .nil))) } }
noncomputable def i_spec_Lift : Inst := { f := 66, fn := Try.f66, n := 47, pds := [.rd (.sl 73 (.pr (.int .i64) (.pr .str (.pr (.int .i64) (.pr (.int .i64) (.pr (.int .i64) (.pr .bool (.pr (.sl 3 (.int .i64)) .un))))))))], caps := [], res := [⟨true, true, (.sl 73 (.pr (.int .i64) (.pr .str (.pr (.int .i64) (.pr (.int .i64) (.pr (.int .i64) (.pr .bool (.pr (.sl 3 (.int .i64)) .un))))))))⟩, ⟨true, true, (.sl 3 (.int .i64))⟩, ⟨false, false, .bool⟩], h := { al := [15, 20, 27, 34, 38, 40], el := [36, 43], tk := [], nn := [], ca := [(9, 23), (12, 20), (24, 34)], code := (.two .nil (.two .nil (.two .nil (.two .nil (.join ⟨[5, 6], [(5, .v ⟨true, true, (.sl 73 (.pr (.int .i64) (.pr .str (.pr (.int .i64) (.pr (.int .i64) (.pr (.int .i64) (.pr .bool (.pr (.sl 3 (.int .i64)) .un))))))))⟩), (6, .v ⟨true, true, (.sl 3 (.int .i64))⟩)]⟩ (.two .nil (.loop ⟨[5, 6, 7], [(5, .v ⟨true, true, (.sl 73 (.pr (.int .i64) (.pr .str (.pr (.int .i64) (.pr (.int .i64) (.pr (.int .i64) (.pr .bool (.pr (.sl 3 (.int .i64)) .un))))))))⟩), (6, .v ⟨true, true, (.sl 3 (.int .i64))⟩), (7, .v ⟨false, false, (.int .i64)⟩)]⟩ (.two .nil (.join ⟨[5, 6, 15], [(5, .v ⟨true, true, (.sl 73 (.pr (.int .i64) (.pr .str (.pr (.int .i64) (.pr (.int .i64) (.pr (.int .i64) (.pr .bool (.pr (.sl 3 (.int .i64)) .un))))))))⟩), (6, .v ⟨true, true, (.sl 3 (.int .i64))⟩)]⟩ .nil .nil)))) .nil))))) } }
noncomputable def i_spec_Closed : Inst := { f := 91, fn := Try.f91, n := 11, pds := [.rd (.sl 73 (.pr (.int .i64) (.pr .str (.pr (.int .i64) (.pr (.int .i64) (.pr (.int .i64) (.pr .bool (.pr (.sl 3 (.int .i64)) .un))))))))], caps := [], res := [⟨false, false, .bool⟩], h := { al := [], el := [], tk := [], nn := [], ca := [(4, 24), (7, 32)], code := (.two .nil (.join ⟨[2], [(2, .v ⟨false, false, .bool⟩)]⟩ .nil .nil)) } }
noncomputable def i_spec_PlanOk : Inst := { f := 102, fn := Try.f102, n := 31, pds := [.rd (.sl 73 (.pr (.int .i64) (.pr .str (.pr (.int .i64) (.pr (.int .i64) (.pr (.int .i64) (.pr .bool (.pr (.sl 3 (.int .i64)) .un))))))))], caps := [], res := [⟨false, false, .bool⟩], h := { al := [], el := [], tk := [], nn := [], ca := [(8, 25), (20, 26), (24, 30)], code := (.two .nil (.two .nil (.join ⟨[2], [(2, .v ⟨false, false, .bool⟩)]⟩ (.two .nil (.loop ⟨[2, 3], [(2, .v ⟨false, false, .bool⟩), (3, .v ⟨false, false, (.int .i64)⟩)]⟩ .nil)) .nil))) } }
noncomputable def i_spec_l01In : Inst := { f := 84, fn := Try.f84, n := 15, pds := [.rd (.int .i64), .rd (.int .i64), .rd (.int .i64)], caps := [], res := [⟨false, false, .bool⟩], h := { al := [], el := [], tk := [], nn := [], ca := [], code := (.two .nil (.join ⟨[6], [(6, .v ⟨false, false, .bool⟩)]⟩ .nil .nil)) } }
noncomputable def i_spec_NodeOk : Inst := { f := 121, fn := Try.f121, n := 186, pds := [.rd (.pr (.int .i64) (.pr .str (.pr (.int .i64) (.pr (.int .i64) (.pr (.int .i64) (.pr .bool (.pr (.sl 3 (.int .i64)) .un)))))))], caps := [], res := [⟨false, false, .bool⟩], h := { al := [], el := [], tk := [], nn := [], ca := [(39, 25), (49, 27), (69, 28), (73, 25), (78, 29), (109, 28), (114, 25), (134, 28), (138, 28), (149, 28), (168, 25)], code := (.two .nil (.two (.join ⟨[], [(42, .v ⟨false, false, .bool⟩)]⟩ .nil .nil) (.join ⟨[2], [(2, .v ⟨false, false, .bool⟩)]⟩ (.two .nil (.two .nil (.two (.join ⟨[2], [(2, .v ⟨false, false, .bool⟩)]⟩ .nil .nil) (.two .nil (.two (.join ⟨[2], [(2, .v ⟨false, false, .bool⟩)]⟩ .nil .nil) (.two .nil (.two (.join ⟨[2], [(2, .v ⟨false, false, .bool⟩)]⟩ (.two .nil (.loop ⟨[2, 3], [(2, .v ⟨false, false, .bool⟩), (3, .v ⟨false, false, (.int .i64)⟩)]⟩ .nil)) (.join ⟨[2], [(2, .v ⟨false, false, .bool⟩)]⟩ .nil .nil)) (.two .nil (.two (.join ⟨[2], [(2, .v ⟨false, false, .bool⟩)]⟩ .nil .nil) (.two .nil (.two (.join ⟨[2], [(2, .v ⟨false, false, .bool⟩)]⟩ .nil .nil) (.two .nil (.two (.join ⟨[2], [(2, .v ⟨false, false, .bool⟩)]⟩ .nil .nil) (.join ⟨[], [(170, .v ⟨false, false, .bool⟩)]⟩ .nil (.two (.join ⟨[2], [(2, .v ⟨false, false, .bool⟩)]⟩ .nil .nil) .nil))))))))))))))) .nil))) } }
noncomputable def i_spec_WordOk : Inst := { f := 134, fn := Try.f134, n := 41, pds := [.rd .str], caps := [], res := [⟨false, false, .bool⟩], h := { al := [], el := [], tk := [], nn := [], ca := [(6, 25)], code := (.two .nil (.two (.join ⟨[], [(12, .v ⟨false, false, .bool⟩)]⟩ .nil .nil) (.join ⟨[2], [(2, .v ⟨false, false, .bool⟩)]⟩ (.two .nil (.loop ⟨[2, 3], [(2, .v ⟨false, false, .bool⟩), (3, .v ⟨false, false, (.int .i64)⟩)]⟩ (.two .nil (.two (.join ⟨[], [(40, .v ⟨false, false, .bool⟩)]⟩ .nil .nil) .nil)))) .nil))) } }
noncomputable def i_spec_l02Col : Inst := { f := 136, fn := Try.f136, n := 5, pds := [.rd (.int .i64)], caps := [], res := [⟨false, false, .bool⟩], h := { al := [], el := [], tk := [], nn := [], ca := [(4, 25)], code := .nil } }
noncomputable def i_spec_l01Number : Inst := { f := 137, fn := Try.f137, n := 5, pds := [.rd (.int .i64)], caps := [], res := [⟨false, false, .bool⟩], h := { al := [], el := [], tk := [], nn := [], ca := [(4, 25)], code := .nil } }
noncomputable def i_spec_l02End : Inst := { f := 100, fn := Try.f100, n := 51, pds := [.rd (.sl 73 (.pr (.int .i64) (.pr .str (.pr (.int .i64) (.pr (.int .i64) (.pr (.int .i64) (.pr .bool (.pr (.sl 3 (.int .i64)) .un)))))))), .rd (.int .i64), .rd (.int .i64)], caps := [], res := [⟨false, false, (.int .i64)⟩, ⟨false, false, (.int .i64)⟩], h := { al := [], el := [], tk := [], nn := [], ca := [(29, 31), (38, 30)], code := (.two .nil (.two (.join ⟨[], [(20, .v ⟨false, false, .bool⟩)]⟩ .nil .nil) (.two .nil (.two .nil (.join ⟨[6, 7, 8, 9], [(6, .v ⟨false, false, (.int .i64)⟩), (7, .v ⟨false, false, (.int .i64)⟩), (8, .v ⟨false, false, (.int .i64)⟩), (9, .v ⟨false, false, (.int .i64)⟩)]⟩ (.two .nil (.loop ⟨[6, 7, 8, 9, 10], [(6, .v ⟨false, false, (.int .i64)⟩), (7, .v ⟨false, false, (.int .i64)⟩), (8, .v ⟨false, false, (.int .i64)⟩), (9, .v ⟨false, false, (.int .i64)⟩), (10, .v ⟨false, false, (.int .i64)⟩)]⟩ (.two .nil (.join ⟨[6, 7, 8, 9], [(6, .v ⟨false, false, (.int .i64)⟩), (7, .v ⟨false, false, (.int .i64)⟩), (8, .v ⟨false, false, (.int .i64)⟩), (9, .v ⟨false, false, (.int .i64)⟩)]⟩ .nil .nil)))) .nil))))) } }
noncomputable def i_spec_ArityOf : Inst := { f := 110, fn := Try.f110, n := 15, pds := [.rd (.int .i64)], caps := [], res := [⟨false, false, (.int .i64)⟩], h := { al := [], el := [], tk := [], nn := [], ca := [], code := (.two .nil (.two (.two .nil (.two .nil (.two .nil (.join ⟨[], [(6, .v ⟨false, false, .bool⟩)]⟩ .nil (.two .nil (.join ⟨[], [(9, .v ⟨false, false, .bool⟩)]⟩ .nil .nil)))))) .nil)) } }
noncomputable def i_spec_SlotsOf : Inst := { f := 116, fn := Try.f116, n := 45, pds := [.rd (.sl 73 (.pr (.int .i64) (.pr .str (.pr (.int .i64) (.pr (.int .i64) (.pr (.int .i64) (.pr .bool (.pr (.sl 3 (.int .i64)) .un))))))))], caps := [], res := [⟨true, true, (.sl 3 (.int .i64))⟩], h := { al := [35], el := [], tk := [], nn := [], ca := [(8, 24), (37, 33)], code := (.two .nil (.two .nil (.two .nil (.join ⟨[3], [(3, .v ⟨true, true, (.sl 3 (.int .i64))⟩)]⟩ (.two .nil (.loop ⟨[3, 4], [(3, .v ⟨true, true, (.sl 3 (.int .i64))⟩), (4, .v ⟨false, false, (.int .i64)⟩)]⟩ (.two .nil (.join ⟨[3], [(3, .v ⟨true, true, (.sl 3 (.int .i64))⟩)]⟩ (.two .nil (.loop ⟨[3, 5], [(3, .v ⟨true, true, (.sl 3 (.int .i64))⟩), (5, .v ⟨false, false, (.int .i64)⟩)]⟩ (.two .nil (.join ⟨[3], [(3, .v ⟨true, true, (.sl 3 (.int .i64))⟩)]⟩ (.join ⟨[], [(39, .v ⟨false, false, .bool⟩)]⟩ .nil .nil) .nil)))) .nil)))) .nil)))) } }
noncomputable def i_spec_l01Has : Inst := { f := 78, fn := Try.f78, n := 18, pds := [.rd (.sl 3 (.int .i64)), .rd (.int .i64)], caps := [], res := [⟨false, false, .bool⟩], h := { al := [], el := [], tk := [], nn := [], ca := [], code := (.two .nil (.join ⟨[4], [(4, .v ⟨false, false, .bool⟩)]⟩ (.two .nil (.loop ⟨[4, 5], [(4, .v ⟨false, false, .bool⟩), (5, .v ⟨false, false, (.int .i64)⟩)]⟩ .nil)) .nil)) } }
noncomputable def i_spec_l07Literal : Inst := { f := 92, fn := Try.f92, n := 16, pds := [.rd (.pr (.int .i64) (.pr .str (.pr (.int .i64) (.pr (.int .i64) (.pr (.int .i64) (.pr .bool (.pr (.sl 3 (.int .i64)) .un)))))))], caps := [], res := [⟨false, false, .bool⟩], h := { al := [], el := [], tk := [], nn := [], ca := [], code := (.two .nil (.join ⟨[2], [(2, .v ⟨false, false, .bool⟩)]⟩ .nil .nil)) } }
noncomputable def i_impl_OnlyDirect : Inst := { f := 28, fn := Try.f28, n := 53, pds := [.rd (.sl 71 (.pr .str (.pr (.int .i64) .un))), .rd (.sl 85 (.pr (.int .i64) (.pr (.sl 73 (.pr (.int .i64) (.pr .str (.pr (.int .i64) (.pr (.int .i64) (.pr (.int .i64) (.pr .bool (.pr (.sl 3 (.int .i64)) .un)))))))) (.pr (.sl 73 (.pr (.int .i64) (.pr .str (.pr (.int .i64) (.pr (.int .i64) (.pr (.int .i64) (.pr .bool (.pr (.sl 3 (.int .i64)) .un)))))))) (.pr (.sl 50 (.pr (.int .i64) (.pr (.int .i64) .un))) .un)))))], caps := [], res := [⟨true, true, (.sl 85 (.pr (.int .i64) (.pr (.sl 73 (.pr (.int .i64) (.pr .str (.pr (.int .i64) (.pr (.int .i64) (.pr (.int .i64) (.pr .bool (.pr (.sl 3 (.int .i64)) .un)))))))) (.pr (.sl 73 (.pr (.int .i64) (.pr .str (.pr (.int .i64) (.pr (.int .i64) (.pr (.int .i64) (.pr .bool (.pr (.sl 3 (.int .i64)) .un)))))))) (.pr (.sl 50 (.pr (.int .i64) (.pr (.int .i64) .un))) .un)))))⟩], h := { al := [], el := [], tk := [], nn := [], ca := [(21, 36), (29, 38), (45, 36)], code := (.two .nil (.two .nil (.join ⟨[5], [(5, .v ⟨true, true, (.sl 85 (.pr (.int .i64) (.pr (.sl 73 (.pr (.int .i64) (.pr .str (.pr (.int .i64) (.pr (.int .i64) (.pr (.int .i64) (.pr .bool (.pr (.sl 3 (.int .i64)) .un)))))))) (.pr (.sl 73 (.pr (.int .i64) (.pr .str (.pr (.int .i64) (.pr (.int .i64) (.pr (.int .i64) (.pr .bool (.pr (.sl 3 (.int .i64)) .un)))))))) (.pr (.sl 50 (.pr (.int .i64) (.pr (.int .i64) .un))) .un)))))⟩)]⟩ (.two .nil (.loop ⟨[5, 15], [(5, .v ⟨true, true, (.sl 85 (.pr (.int .i64) (.pr (.sl 73 (.pr (.int .i64) (.pr .str (.pr (.int .i64) (.pr (.int .i64) (.pr (.int .i64) (.pr .bool (.pr (.sl 3 (.int .i64)) .un)))))))) (.pr (.sl 73 (.pr (.int .i64) (.pr .str (.pr (.int .i64) (.pr (.int .i64) (.pr (.int .i64) (.pr .bool (.pr (.sl 3 (.int .i64)) .un)))))))) (.pr (.sl 50 (.pr (.int .i64) (.pr (.int .i64) .un))) .un)))))⟩), (15, .v ⟨false, false, (.int .i64)⟩)]⟩ (.two .nil (.two .nil (.two (.two .nil (.two .nil (.join ⟨[8, 9], [(8, .v ⟨true, true, (.sl 73 (.pr (.int .i64) (.pr .str (.pr (.int .i64) (.pr (.int .i64) (.pr (.int .i64) (.pr .bool (.pr (.sl 3 (.int .i64)) .un))))))))⟩), (9, .v ⟨true, true, (.sl 50 (.pr (.int .i64) (.pr (.int .i64) .un)))⟩)]⟩ (.two .nil (.join ⟨[], [(38, .v ⟨false, false, .bool⟩)]⟩ .nil .nil)) .nil))) .nil))))) .nil))) } }
noncomputable def i_impl_own : Inst := { f := 68, fn := Try.f68, n := 22, pds := [.rd (.sl 73 (.pr (.int .i64) (.pr .str (.pr (.int .i64) (.pr (.int .i64) (.pr (.int .i64) (.pr .bool (.pr (.sl 3 (.int .i64)) .un))))))))], caps := [], res := [⟨true, true, (.sl 73 (.pr (.int .i64) (.pr .str (.pr (.int .i64) (.pr (.int .i64) (.pr (.int .i64) (.pr .bool (.pr (.sl 3 (.int .i64)) .un))))))))⟩], h := { al := [], el := [], tk := [17], nn := [], ca := [(14, 37)], code := (.two .nil (.two .nil (.join ⟨[3], [(3, .v ⟨true, true, (.sl 73 (.pr (.int .i64) (.pr .str (.pr (.int .i64) (.pr (.int .i64) (.pr (.int .i64) (.pr .bool (.pr (.sl 3 (.int .i64)) .un))))))))⟩)]⟩ (.two .nil (.loop ⟨[3, 8], [(3, .v ⟨true, true, (.sl 73 (.pr (.int .i64) (.pr .str (.pr (.int .i64) (.pr (.int .i64) (.pr (.int .i64) (.pr .bool (.pr (.sl 3 (.int .i64)) .un))))))))⟩), (8, .v ⟨false, false, (.int .i64)⟩)]⟩ .nil)) .nil))) } }
noncomputable def i_slices_Clone_Lint : Inst := { f := 94, fn := Try.f94, n := 8, pds := [.rd (.sl 3 (.int .i64))], caps := [], res := [⟨true, true, (.sl 3 (.int .i64))⟩], h := { al := [], el := [], tk := [], nn := [], ca := [], code := .nil } }
noncomputable def i_impl_Lift : Inst := { f := 69, fn := Try.f69, n := 45, pds := [.rd (.sl 73 (.pr (.int .i64) (.pr .str (.pr (.int .i64) (.pr (.int .i64) (.pr (.int .i64) (.pr .bool (.pr (.sl 3 (.int .i64)) .un))))))))], caps := [], res := [⟨true, true, (.sl 73 (.pr (.int .i64) (.pr .str (.pr (.int .i64) (.pr (.int .i64) (.pr (.int .i64) (.pr .bool (.pr (.sl 3 (.int .i64)) .un))))))))⟩, ⟨true, true, (.sl 3 (.int .i64))⟩, ⟨false, false, .bool⟩], h := { al := [14, 19, 34], el := [21], tk := [], nn := [], ca := [(10, 39), (13, 36), (25, 61)], code := (.two .nil (.two .nil (.two .nil (.two .nil (.join ⟨[5, 6], [(5, .v ⟨true, true, (.sl 73 (.pr (.int .i64) (.pr .str (.pr (.int .i64) (.pr (.int .i64) (.pr (.int .i64) (.pr .bool (.pr (.sl 3 (.int .i64)) .un))))))))⟩), (6, .v ⟨true, true, (.sl 3 (.int .i64))⟩)]⟩ (.two .nil (.loop ⟨[5, 6, 14, 16], [(5, .v ⟨true, true, (.sl 73 (.pr (.int .i64) (.pr .str (.pr (.int .i64) (.pr (.int .i64) (.pr (.int .i64) (.pr .bool (.pr (.sl 3 (.int .i64)) .un))))))))⟩), (6, .v ⟨true, true, (.sl 3 (.int .i64))⟩), (16, .v ⟨false, false, (.int .i64)⟩)]⟩ (.two .nil (.two .nil (.join ⟨[5, 6], [(5, .v ⟨true, true, (.sl 73 (.pr (.int .i64) (.pr .str (.pr (.int .i64) (.pr (.int .i64) (.pr (.int .i64) (.pr .bool (.pr (.sl 3 (.int .i64)) .un))))))))⟩), (6, .v ⟨true, true, (.sl 3 (.int .i64))⟩)]⟩ .nil .nil))))) .nil))))) } }
noncomputable def i_impl_Closed : Inst := { f := 95, fn := Try.f95, n := 10, pds := [.rd (.sl 73 (.pr (.int .i64) (.pr .str (.pr (.int .i64) (.pr (.int .i64) (.pr (.int .i64) (.pr .bool (.pr (.sl 3 (.int .i64)) .un))))))))], caps := [], res := [⟨false, false, .bool⟩], h := { al := [], el := [], tk := [], nn := [], ca := [(4, 40), (7, 57)], code := (.two .nil (.join ⟨[2], [(2, .v ⟨false, false, .bool⟩)]⟩ .nil .nil)) } }
noncomputable def i_impl_PlanOk : Inst := { f := 107, fn := Try.f107, n := 16, pds := [.rd (.sl 73 (.pr (.int .i64) (.pr .str (.pr (.int .i64) (.pr (.int .i64) (.pr (.int .i64) (.pr .bool (.pr (.sl 3 (.int .i64)) .un))))))))], caps := [], res := [⟨false, false, .bool⟩], h := { al := [], el := [], tk := [], nn := [], ca := [(5, 41), (9, 42), (12, 55)], code := (.two .nil (.two (.join ⟨[], [(10, .v ⟨false, false, .bool⟩)]⟩ .nil .nil) .nil)) } }
noncomputable def i_impl_in : Inst := { f := 103, fn := Try.f103, n := 15, pds := [.rd (.int .i64), .rd (.int .i64), .rd (.int .i64)], caps := [], res := [⟨false, false, .bool⟩], h := { al := [], el := [], tk := [], nn := [], ca := [], code := (.two .nil (.join ⟨[6], [(6, .v ⟨false, false, .bool⟩)]⟩ .nil .nil)) } }
noncomputable def i_slices_ContainsFunc_LimplNode_impl_PlanOk_1 : Inst := { f := 126, fn := Try.f126, n := 9, pds := [.rd (.sl 73 (.pr (.int .i64) (.pr .str (.pr (.int .i64) (.pr (.int .i64) (.pr (.int .i64) (.pr .bool (.pr (.sl 3 (.int .i64)) .un)))))))), .fn 127 []], caps := [], res := [⟨false, false, .bool⟩], h := { al := [], el := [], tk := [], nn := [], ca := [(7, 43)], code := .nil } }
noncomputable def i_slices_IndexFunc_LimplNode_impl_PlanOk_1 : Inst := { f := 139, fn := Try.f139, n := 19, pds := [.rd (.sl 73 (.pr (.int .i64) (.pr .str (.pr (.int .i64) (.pr (.int .i64) (.pr (.int .i64) (.pr .bool (.pr (.sl 3 (.int .i64)) .un)))))))), .fn 127 []], caps := [], res := [⟨false, false, (.int .i64)⟩], h := { al := [], el := [], tk := [], nn := [], ca := [(16, 44)], code := (.two .nil (.join ⟨[4], [(4, .v ⟨false, false, (.int .i64)⟩)]⟩ (.two .nil (.loop ⟨[4, 8], [(4, .v ⟨false, false, (.int .i64)⟩), (8, .v ⟨false, false, (.int .i64)⟩)]⟩ .nil)) .nil)) } }
noncomputable def i_impl_PlanOk_1 : Inst := { f := 127, fn := Try.f127, n := 6, pds := [.rd (.pr (.int .i64) (.pr .str (.pr (.int .i64) (.pr (.int .i64) (.pr (.int .i64) (.pr .bool (.pr (.sl 3 (.int .i64)) .un)))))))], caps := [], res := [⟨false, false, .bool⟩], h := { al := [], el := [], tk := [], nn := [], ca := [(4, 45)], code := .nil } }
noncomputable def i_impl_NodeOk : Inst := { f := 128, fn := Try.f128, n := 116, pds := [.rd (.pr (.int .i64) (.pr .str (.pr (.int .i64) (.pr (.int .i64) (.pr (.int .i64) (.pr .bool (.pr (.sl 3 (.int .i64)) .un)))))))], caps := [], res := [⟨false, false, .bool⟩], h := { al := [], el := [], tk := [], nn := [], ca := [(13, 46), (19, 47), (23, 41), (29, 49), (53, 48), (64, 41), (68, 50), (76, 47), (80, 47), (88, 47), (94, 41), (102, 48), (114, 53)], code := (.two .nil (.two .nil (.two .nil (.two .nil (.join ⟨[3, 4, 6], [(3, .bx 73 [⟨false, false, (.int .i64)⟩, ⟨false, false, .str⟩, ⟨false, false, (.int .i64)⟩, ⟨false, false, (.int .i64)⟩, ⟨false, false, (.int .i64)⟩, ⟨false, false, .bool⟩, ⟨false, false, (.sl 3 (.int .i64))⟩]), (4, .v ⟨false, false, .bool⟩)]⟩ (.two .nil (.two .nil (.two .nil (.two .nil (.two (.join ⟨[4], [(4, .v ⟨false, false, .bool⟩)]⟩ .nil (.join ⟨[4], [(4, .v ⟨false, false, .bool⟩)]⟩ .nil .nil)) (.two .nil (.two (.join ⟨[4], [(4, .v ⟨false, false, .bool⟩)]⟩ .nil .nil) (.two .nil (.two (.join ⟨[4], [(4, .v ⟨false, false, .bool⟩)]⟩ .nil .nil) (.two .nil (.two .nil (.two .nil (.two (.join ⟨[4], [(4, .v ⟨false, false, .bool⟩)]⟩ .nil .nil) (.join ⟨[], [(107, .v ⟨false, false, .bool⟩)]⟩ .nil .nil)))))))))))))) (.join ⟨[2], [(2, .v ⟨false, false, .bool⟩)]⟩ .nil .nil)))))) } }
noncomputable def i_impl_WordOk : Inst := { f := 140, fn := Try.f140, n := 38, pds := [.rd .str], caps := [], res := [⟨false, false, .bool⟩], h := { al := [], el := [], tk := [], nn := [], ca := [(37, 41)], code := (.two .nil (.join ⟨[2], [(2, .v ⟨false, false, .bool⟩)]⟩ (.two .nil (.loop ⟨[2, 8], [(2, .v ⟨false, false, .bool⟩), (8, .v ⟨false, false, (.int .i64)⟩)]⟩ (.two .nil (.two .nil (.two (.two .nil (.two .nil (.join ⟨[], [(5, .v ⟨false, false, .bool⟩)]⟩ .nil (.join ⟨[], [(33, .v ⟨false, false, .bool⟩)]⟩ .nil .nil)))) .nil))))) .nil)) } }
noncomputable def i_impl_isCol : Inst := { f := 141, fn := Try.f141, n := 5, pds := [.rd (.int .i64)], caps := [], res := [⟨false, false, .bool⟩], h := { al := [], el := [], tk := [], nn := [], ca := [(4, 41)], code := .nil } }
noncomputable def i_impl_isSlot : Inst := { f := 142, fn := Try.f142, n := 5, pds := [.rd (.int .i64)], caps := [], res := [⟨false, false, .bool⟩], h := { al := [], el := [], tk := [], nn := [], ca := [(4, 41)], code := .nil } }
noncomputable def i_impl_isNum : Inst := { f := 143, fn := Try.f143, n := 5, pds := [.rd (.int .i64)], caps := [], res := [⟨false, false, .bool⟩], h := { al := [], el := [], tk := [], nn := [], ca := [(4, 41)], code := .nil } }
noncomputable def i_slices_ContainsFunc_Lint_impl_NodeOk_1 : Inst := { f := 112, fn := Try.f112, n := 9, pds := [.rd (.sl 3 (.int .i64)), .fn 144 []], caps := [], res := [⟨false, false, .bool⟩], h := { al := [], el := [], tk := [], nn := [], ca := [(7, 51)], code := .nil } }
noncomputable def i_slices_IndexFunc_Lint_impl_NodeOk_1 : Inst := { f := 130, fn := Try.f130, n := 19, pds := [.rd (.sl 3 (.int .i64)), .fn 144 []], caps := [], res := [⟨false, false, (.int .i64)⟩], h := { al := [], el := [], tk := [], nn := [], ca := [(16, 52)], code := (.two .nil (.join ⟨[4], [(4, .v ⟨false, false, (.int .i64)⟩)]⟩ (.two .nil (.loop ⟨[4, 8], [(4, .v ⟨false, false, (.int .i64)⟩), (8, .v ⟨false, false, (.int .i64)⟩)]⟩ .nil)) .nil)) } }
noncomputable def i_impl_NodeOk_1 : Inst := { f := 144, fn := Try.f144, n := 6, pds := [.rd (.int .i64)], caps := [], res := [⟨false, false, .bool⟩], h := { al := [], el := [], tk := [], nn := [], ca := [(4, 47)], code := .nil } }
noncomputable def i_impl_sameNode : Inst := { f := 145, fn := Try.f145, n := 52, pds := [.rd (.pr (.int .i64) (.pr .str (.pr (.int .i64) (.pr (.int .i64) (.pr (.int .i64) (.pr .bool (.pr (.sl 3 (.int .i64)) .un))))))), .rd (.pr (.int .i64) (.pr .str (.pr (.int .i64) (.pr (.int .i64) (.pr (.int .i64) (.pr .bool (.pr (.sl 3 (.int .i64)) .un)))))))], caps := [], res := [⟨false, false, .bool⟩], h := { al := [], el := [], tk := [], nn := [], ca := [(50, 54)], code := (.two .nil (.join ⟨[4], [(4, .v ⟨false, false, .bool⟩)]⟩ .nil .nil)) } }
noncomputable def i_slices_Equal_Lint : Inst := { f := 146, fn := Try.f146, n := 26, pds := [.rd (.sl 3 (.int .i64)), .rd (.sl 3 (.int .i64))], caps := [], res := [⟨false, false, .bool⟩], h := { al := [], el := [], tk := [], nn := [], ca := [], code := (.two .nil (.two .nil (.join ⟨[4], [(4, .v ⟨false, false, .bool⟩)]⟩ (.two .nil (.loop ⟨[4, 13], [(4, .v ⟨false, false, .bool⟩), (13, .v ⟨false, false, (.int .i64)⟩)]⟩ .nil)) .nil))) } }
noncomputable def i_impl_end : Inst := { f := 106, fn := Try.f106, n := 35, pds := [.rd (.sl 73 (.pr (.int .i64) (.pr .str (.pr (.int .i64) (.pr (.int .i64) (.pr (.int .i64) (.pr .bool (.pr (.sl 3 (.int .i64)) .un)))))))), .rd (.int .i64), .rd (.int .i64)], caps := [], res := [⟨false, false, (.int .i64)⟩], h := { al := [], el := [], tk := [], nn := [], ca := [(23, 56), (30, 55)], code := (.two .nil (.two (.join ⟨[], [(15, .v ⟨false, false, .bool⟩)]⟩ .nil .nil) (.two .nil (.join ⟨[6, 7], [(6, .v ⟨false, false, (.int .i64)⟩), (7, .v ⟨false, false, (.int .i64)⟩)]⟩ (.two .nil (.loop ⟨[6, 7, 24], [(6, .v ⟨false, false, (.int .i64)⟩), (7, .v ⟨false, false, (.int .i64)⟩), (24, .v ⟨false, false, (.int .i64)⟩)]⟩ .nil)) .nil)))) } }
noncomputable def i_impl_ArityOf : Inst := { f := 125, fn := Try.f125, n := 15, pds := [.rd (.int .i64)], caps := [], res := [⟨false, false, (.int .i64)⟩], h := { al := [], el := [], tk := [], nn := [], ca := [], code := (.two .nil (.two (.two .nil (.two .nil (.two .nil (.join ⟨[], [(6, .v ⟨false, false, .bool⟩)]⟩ .nil (.two .nil (.join ⟨[], [(9, .v ⟨false, false, .bool⟩)]⟩ .nil .nil)))))) .nil)) } }
noncomputable def i_impl_hasSlot : Inst := { f := 118, fn := Try.f118, n := 5, pds := [.rd (.sl 73 (.pr (.int .i64) (.pr .str (.pr (.int .i64) (.pr (.int .i64) (.pr (.int .i64) (.pr .bool (.pr (.sl 3 (.int .i64)) .un))))))))], caps := [], res := [⟨false, false, .bool⟩], h := { al := [], el := [], tk := [], nn := [], ca := [(4, 58)], code := .nil } }
noncomputable def i_slices_ContainsFunc_LimplNode_impl_hasSlot_1 : Inst := { f := 126, fn := Try.f126, n := 9, pds := [.rd (.sl 73 (.pr (.int .i64) (.pr .str (.pr (.int .i64) (.pr (.int .i64) (.pr (.int .i64) (.pr .bool (.pr (.sl 3 (.int .i64)) .un)))))))), .fn 133 []], caps := [], res := [⟨false, false, .bool⟩], h := { al := [], el := [], tk := [], nn := [], ca := [(7, 59)], code := .nil } }
noncomputable def i_slices_IndexFunc_LimplNode_impl_hasSlot_1 : Inst := { f := 139, fn := Try.f139, n := 19, pds := [.rd (.sl 73 (.pr (.int .i64) (.pr .str (.pr (.int .i64) (.pr (.int .i64) (.pr (.int .i64) (.pr .bool (.pr (.sl 3 (.int .i64)) .un)))))))), .fn 133 []], caps := [], res := [⟨false, false, (.int .i64)⟩], h := { al := [], el := [], tk := [], nn := [], ca := [(16, 60)], code := (.two .nil (.join ⟨[4], [(4, .v ⟨false, false, (.int .i64)⟩)]⟩ (.two .nil (.loop ⟨[4, 8], [(4, .v ⟨false, false, (.int .i64)⟩), (8, .v ⟨false, false, (.int .i64)⟩)]⟩ .nil)) .nil)) } }
noncomputable def i_impl_hasSlot_1 : Inst := { f := 133, fn := Try.f133, n := 5, pds := [.rd (.pr (.int .i64) (.pr .str (.pr (.int .i64) (.pr (.int .i64) (.pr (.int .i64) (.pr .bool (.pr (.sl 3 (.int .i64)) .un)))))))], caps := [], res := [⟨false, false, .bool⟩], h := { al := [], el := [], tk := [], nn := [], ca := [], code := .nil } }
noncomputable def i_impl_Node_isLiteral : Inst := { f := 96, fn := Try.f96, n := 16, pds := [.rd (.pr (.int .i64) (.pr .str (.pr (.int .i64) (.pr (.int .i64) (.pr (.int .i64) (.pr .bool (.pr (.sl 3 (.int .i64)) .un)))))))], caps := [], res := [⟨false, false, .bool⟩], h := { al := [], el := [], tk := [], nn := [], ca := [], code := (.two .nil (.join ⟨[2], [(2, .v ⟨false, false, .bool⟩)]⟩ .nil .nil)) } }
noncomputable def i_laws_eqOpS : Inst := { f := 29, fn := Try.f29, n := 27, pds := [.rd (.sl 85 (.pr (.int .i64) (.pr (.sl 73 (.pr (.int .i64) (.pr .str (.pr (.int .i64) (.pr (.int .i64) (.pr (.int .i64) (.pr .bool (.pr (.sl 3 (.int .i64)) .un)))))))) (.pr (.sl 73 (.pr (.int .i64) (.pr .str (.pr (.int .i64) (.pr (.int .i64) (.pr (.int .i64) (.pr .bool (.pr (.sl 3 (.int .i64)) .un)))))))) (.pr (.sl 50 (.pr (.int .i64) (.pr (.int .i64) .un))) .un))))), .rd (.sl 85 (.pr (.int .i64) (.pr (.sl 73 (.pr (.int .i64) (.pr .str (.pr (.int .i64) (.pr (.int .i64) (.pr (.int .i64) (.pr .bool (.pr (.sl 3 (.int .i64)) .un)))))))) (.pr (.sl 73 (.pr (.int .i64) (.pr .str (.pr (.int .i64) (.pr (.int .i64) (.pr (.int .i64) (.pr .bool (.pr (.sl 3 (.int .i64)) .un)))))))) (.pr (.sl 50 (.pr (.int .i64) (.pr (.int .i64) .un))) .un)))))], caps := [], res := [⟨false, false, .bool⟩], h := { al := [], el := [], tk := [], nn := [], ca := [(25, 63)], code := (.two .nil (.two .nil (.join ⟨[4], [(4, .v ⟨false, false, .bool⟩)]⟩ (.two .nil (.loop ⟨[4, 5], [(4, .v ⟨false, false, .bool⟩), (5, .v ⟨false, false, (.int .i64)⟩)]⟩ .nil)) .nil))) } }
noncomputable def i_laws_eqOp : Inst := { f := 70, fn := Try.f70, n := 28, pds := [.rd (.pr (.int .i64) (.pr (.sl 73 (.pr (.int .i64) (.pr .str (.pr (.int .i64) (.pr (.int .i64) (.pr (.int .i64) (.pr .bool (.pr (.sl 3 (.int .i64)) .un)))))))) (.pr (.sl 73 (.pr (.int .i64) (.pr .str (.pr (.int .i64) (.pr (.int .i64) (.pr (.int .i64) (.pr .bool (.pr (.sl 3 (.int .i64)) .un)))))))) (.pr (.sl 50 (.pr (.int .i64) (.pr (.int .i64) .un))) .un)))), .rd (.pr (.int .i64) (.pr (.sl 73 (.pr (.int .i64) (.pr .str (.pr (.int .i64) (.pr (.int .i64) (.pr (.int .i64) (.pr .bool (.pr (.sl 3 (.int .i64)) .un)))))))) (.pr (.sl 73 (.pr (.int .i64) (.pr .str (.pr (.int .i64) (.pr (.int .i64) (.pr (.int .i64) (.pr .bool (.pr (.sl 3 (.int .i64)) .un)))))))) (.pr (.sl 50 (.pr (.int .i64) (.pr (.int .i64) .un))) .un))))], caps := [], res := [⟨false, false, .bool⟩], h := { al := [], el := [], tk := [], nn := [], ca := [(14, 64), (20, 64), (26, 67)], code := .nil } }
noncomputable def i_laws_eqNodeS : Inst := { f := 22, fn := Try.f22, n := 27, pds := [.rd (.sl 73 (.pr (.int .i64) (.pr .str (.pr (.int .i64) (.pr (.int .i64) (.pr (.int .i64) (.pr .bool (.pr (.sl 3 (.int .i64)) .un)))))))), .rd (.sl 73 (.pr (.int .i64) (.pr .str (.pr (.int .i64) (.pr (.int .i64) (.pr (.int .i64) (.pr .bool (.pr (.sl 3 (.int .i64)) .un))))))))], caps := [], res := [⟨false, false, .bool⟩], h := { al := [], el := [], tk := [], nn := [], ca := [(25, 65)], code := (.two .nil (.two .nil (.join ⟨[4], [(4, .v ⟨false, false, .bool⟩)]⟩ (.two .nil (.loop ⟨[4, 5], [(4, .v ⟨false, false, .bool⟩), (5, .v ⟨false, false, (.int .i64)⟩)]⟩ .nil)) .nil))) } }
noncomputable def i_laws_eqNode : Inst := { f := 62, fn := Try.f62, n := 41, pds := [.rd (.pr (.int .i64) (.pr .str (.pr (.int .i64) (.pr (.int .i64) (.pr (.int .i64) (.pr .bool (.pr (.sl 3 (.int .i64)) .un))))))), .rd (.pr (.int .i64) (.pr .str (.pr (.int .i64) (.pr (.int .i64) (.pr (.int .i64) (.pr .bool (.pr (.sl 3 (.int .i64)) .un)))))))], caps := [], res := [⟨false, false, .bool⟩], h := { al := [], el := [], tk := [], nn := [], ca := [(39, 66)], code := .nil } }
noncomputable def i_laws_eqIntS : Inst := { f := 21, fn := Try.f21, n := 26, pds := [.rd (.sl 3 (.int .i64)), .rd (.sl 3 (.int .i64))], caps := [], res := [⟨false, false, .bool⟩], h := { al := [], el := [], tk := [], nn := [], ca := [], code := (.two .nil (.two .nil (.join ⟨[4], [(4, .v ⟨false, false, .bool⟩)]⟩ (.two .nil (.loop ⟨[4, 5], [(4, .v ⟨false, false, .bool⟩), (5, .v ⟨false, false, (.int .i64)⟩)]⟩ .nil)) .nil))) } }
noncomputable def i_laws_eqStepS : Inst := { f := 44, fn := Try.f44, n := 27, pds := [.rd (.sl 50 (.pr (.int .i64) (.pr (.int .i64) .un))), .rd (.sl 50 (.pr (.int .i64) (.pr (.int .i64) .un)))], caps := [], res := [⟨false, false, .bool⟩], h := { al := [], el := [], tk := [], nn := [], ca := [(25, 68)], code := (.two .nil (.two .nil (.join ⟨[4], [(4, .v ⟨false, false, .bool⟩)]⟩ (.two .nil (.loop ⟨[4, 5], [(4, .v ⟨false, false, .bool⟩), (5, .v ⟨false, false, (.int .i64)⟩)]⟩ .nil)) .nil))) } }
noncomputable def i_laws_eqStep : Inst := { f := 39, fn := Try.f39, n := 15, pds := [.rd (.pr (.int .i64) (.pr (.int .i64) .un)), .rd (.pr (.int .i64) (.pr (.int .i64) .un))], caps := [], res := [⟨false, false, .bool⟩], h := { al := [], el := [], tk := [], nn := [], ca := [], code := .nil } }
noncomputable def i_laws_eqTableS : Inst := { f := 20, fn := Try.f20, n := 27, pds := [.rd (.sl 71 (.pr .str (.pr (.int .i64) .un))), .rd (.sl 71 (.pr .str (.pr (.int .i64) .un)))], caps := [], res := [⟨false, false, .bool⟩], h := { al := [], el := [], tk := [], nn := [], ca := [(25, 70)], code := (.two .nil (.two .nil (.join ⟨[4], [(4, .v ⟨false, false, .bool⟩)]⟩ (.two .nil (.loop ⟨[4, 5], [(4, .v ⟨false, false, .bool⟩), (5, .v ⟨false, false, (.int .i64)⟩)]⟩ .nil)) .nil))) } }
noncomputable def i_laws_eqTable : Inst := { f := 61, fn := Try.f61, n := 15, pds := [.rd (.pr .str (.pr (.int .i64) .un)), .rd (.pr .str (.pr (.int .i64) .un))], caps := [], res := [⟨false, false, .bool⟩], h := { al := [], el := [], tk := [], nn := [], ca := [], code := .nil } }
noncomputable def i_laws_markTableS : Inst := { f := 30, fn := Try.f30, n := 28, pds := [.mu true true 71 (.pr .str (.pr (.int .i64) .un)), .rd (.int .i64)], caps := [], res := [⟨false, false, (.int .i64)⟩], h := { al := [], el := [16, 23], tk := [], nn := [], ca := [(15, 72)], code := (.two .nil (.join ⟨[0, 1, 28], [(1, .v ⟨false, false, (.int .i64)⟩), (28, .v ⟨true, true, (.sl 71 (.pr .str (.pr (.int .i64) .un)))⟩)]⟩ (.two .nil (.loop ⟨[0, 1, 5, 28], [(0, .fix (.eq 28)), (1, .v ⟨false, false, (.int .i64)⟩), (5, .v ⟨false, false, (.int .i64)⟩), (28, .v ⟨true, true, (.sl 71 (.pr .str (.pr (.int .i64) .un)))⟩)]⟩ .nil)) .nil)) } }
noncomputable def i_laws_markText : Inst := { f := 71, fn := Try.f71, n := 20, pds := [.rd (.int .i64)], caps := [], res := [⟨false, false, .str⟩], h := { al := [], el := [], tk := [], nn := [], ca := [], code := (.two .nil (.two .nil (.two .nil (.join ⟨[0, 3], [(3, .v ⟨false, false, .str⟩)]⟩ (.loop ⟨[0, 3], [(0, .v ⟨false, false, (.int .i64)⟩), (3, .v ⟨false, false, .str⟩)]⟩ .nil) .nil)))) } }
noncomputable def i_laws_markOpS : Inst := { f := 31, fn := Try.f31, n := 41, pds := [.mu true true 85 (.pr (.int .i64) (.pr (.sl 73 (.pr (.int .i64) (.pr .str (.pr (.int .i64) (.pr (.int .i64) (.pr (.int .i64) (.pr .bool (.pr (.sl 3 (.int .i64)) .un)))))))) (.pr (.sl 73 (.pr (.int .i64) (.pr .str (.pr (.int .i64) (.pr (.int .i64) (.pr (.int .i64) (.pr .bool (.pr (.sl 3 (.int .i64)) .un)))))))) (.pr (.sl 50 (.pr (.int .i64) (.pr (.int .i64) .un))) .un)))), .rd (.int .i64)], caps := [], res := [⟨false, false, (.int .i64)⟩], h := { al := [], el := [15, 21, 28, 35], tk := [], nn := [23, 30, 37], ca := [(25, 74), (32, 74), (39, 76)], code := (.two .nil (.join ⟨[0, 1, 41], [(1, .v ⟨false, false, (.int .i64)⟩), (41, .v ⟨true, true, (.sl 85 (.pr (.int .i64) (.pr (.sl 73 (.pr (.int .i64) (.pr .str (.pr (.int .i64) (.pr (.int .i64) (.pr (.int .i64) (.pr .bool (.pr (.sl 3 (.int .i64)) .un)))))))) (.pr (.sl 73 (.pr (.int .i64) (.pr .str (.pr (.int .i64) (.pr (.int .i64) (.pr (.int .i64) (.pr .bool (.pr (.sl 3 (.int .i64)) .un)))))))) (.pr (.sl 50 (.pr (.int .i64) (.pr (.int .i64) .un))) .un)))))⟩)]⟩ (.two .nil (.loop ⟨[0, 1, 5, 41], [(0, .fix (.eq 41)), (1, .v ⟨false, false, (.int .i64)⟩), (5, .v ⟨false, false, (.int .i64)⟩), (41, .v ⟨true, true, (.sl 85 (.pr (.int .i64) (.pr (.sl 73 (.pr (.int .i64) (.pr .str (.pr (.int .i64) (.pr (.int .i64) (.pr (.int .i64) (.pr .bool (.pr (.sl 3 (.int .i64)) .un)))))))) (.pr (.sl 73 (.pr (.int .i64) (.pr .str (.pr (.int .i64) (.pr (.int .i64) (.pr (.int .i64) (.pr .bool (.pr (.sl 3 (.int .i64)) .un)))))))) (.pr (.sl 50 (.pr (.int .i64) (.pr (.int .i64) .un))) .un)))))⟩)]⟩ .nil)) .nil)) } }
noncomputable def i_laws_markNodeS : Inst := { f := 45, fn := Try.f45, n := 65, pds := [.mu true true 73 (.pr (.int .i64) (.pr .str (.pr (.int .i64) (.pr (.int .i64) (.pr (.int .i64) (.pr .bool (.pr (.sl 3 (.int .i64)) .un))))))), .rd (.int .i64)], caps := [], res := [⟨false, false, (.int .i64)⟩], h := { al := [], el := [15, 23, 30, 37, 44, 53, 59], tk := [], nn := [61], ca := [(22, 72), (63, 75)], code := (.two .nil (.join ⟨[0, 1, 65], [(1, .v ⟨false, false, (.int .i64)⟩), (65, .v ⟨true, true, (.sl 73 (.pr (.int .i64) (.pr .str (.pr (.int .i64) (.pr (.int .i64) (.pr (.int .i64) (.pr .bool (.pr (.sl 3 (.int .i64)) .un))))))))⟩)]⟩ (.two .nil (.loop ⟨[0, 1, 5, 65], [(0, .fix (.eq 65)), (1, .v ⟨false, false, (.int .i64)⟩), (5, .v ⟨false, false, (.int .i64)⟩), (65, .v ⟨true, true, (.sl 73 (.pr (.int .i64) (.pr .str (.pr (.int .i64) (.pr (.int .i64) (.pr (.int .i64) (.pr .bool (.pr (.sl 3 (.int .i64)) .un))))))))⟩)]⟩ .nil)) .nil)) } }
noncomputable def i_laws_markIntS : Inst := { f := 46, fn := Try.f46, n := 19, pds := [.mu true true 3 (.int .i64), .rd (.int .i64)], caps := [], res := [⟨false, false, (.int .i64)⟩], h := { al := [], el := [15], tk := [], nn := [], ca := [], code := (.two .nil (.join ⟨[0, 1, 19], [(1, .v ⟨false, false, (.int .i64)⟩), (19, .v ⟨true, true, (.sl 3 (.int .i64))⟩)]⟩ (.two .nil (.loop ⟨[0, 1, 5, 19], [(0, .fix (.eq 19)), (1, .v ⟨false, false, (.int .i64)⟩), (5, .v ⟨false, false, (.int .i64)⟩), (19, .v ⟨true, true, (.sl 3 (.int .i64))⟩)]⟩ .nil)) .nil)) } }
noncomputable def i_laws_markStepS : Inst := { f := 47, fn := Try.f47, n := 27, pds := [.mu true true 50 (.pr (.int .i64) (.pr (.int .i64) .un)), .rd (.int .i64)], caps := [], res := [⟨false, false, (.int .i64)⟩], h := { al := [], el := [15, 22], tk := [], nn := [], ca := [], code := (.two .nil (.join ⟨[0, 1, 27], [(1, .v ⟨false, false, (.int .i64)⟩), (27, .v ⟨true, true, (.sl 50 (.pr (.int .i64) (.pr (.int .i64) .un)))⟩)]⟩ (.two .nil (.loop ⟨[0, 1, 5, 27], [(0, .fix (.eq 27)), (1, .v ⟨false, false, (.int .i64)⟩), (5, .v ⟨false, false, (.int .i64)⟩), (27, .v ⟨true, true, (.sl 50 (.pr (.int .i64) (.pr (.int .i64) .un)))⟩)]⟩ .nil)) .nil)) } }
noncomputable def i_laws_heldOpS : Inst := { f := 32, fn := Try.f32, n := 49, pds := [.rd (.sl 85 (.pr (.int .i64) (.pr (.sl 73 (.pr (.int .i64) (.pr .str (.pr (.int .i64) (.pr (.int .i64) (.pr (.int .i64) (.pr .bool (.pr (.sl 3 (.int .i64)) .un)))))))) (.pr (.sl 73 (.pr (.int .i64) (.pr .str (.pr (.int .i64) (.pr (.int .i64) (.pr (.int .i64) (.pr .bool (.pr (.sl 3 (.int .i64)) .un)))))))) (.pr (.sl 50 (.pr (.int .i64) (.pr (.int .i64) .un))) .un))))), .rd (.int .i64)], caps := [], res := [⟨false, false, (.int .i64)⟩], h := { al := [], el := [], tk := [], nn := [], ca := [(27, 78), (36, 78), (45, 80)], code := (.two .nil (.join ⟨[1, 4], [(1, .v ⟨false, false, (.int .i64)⟩), (4, .v ⟨false, false, (.int .i64)⟩)]⟩ (.two .nil (.loop ⟨[1, 4, 5], [(1, .v ⟨false, false, (.int .i64)⟩), (4, .v ⟨false, false, (.int .i64)⟩), (5, .v ⟨false, false, (.int .i64)⟩)]⟩ .nil)) .nil)) } }
noncomputable def i_laws_heldNodeS : Inst := { f := 48, fn := Try.f48, n := 79, pds := [.rd (.sl 73 (.pr (.int .i64) (.pr .str (.pr (.int .i64) (.pr (.int .i64) (.pr (.int .i64) (.pr .bool (.pr (.sl 3 (.int .i64)) .un)))))))), .rd (.int .i64)], caps := [], res := [⟨false, false, (.int .i64)⟩], h := { al := [], el := [], tk := [], nn := [], ca := [(27, 72), (75, 79)], code := (.two .nil (.join ⟨[1, 4], [(1, .v ⟨false, false, (.int .i64)⟩), (4, .v ⟨false, false, (.int .i64)⟩)]⟩ (.two .nil (.loop ⟨[1, 4, 5], [(1, .v ⟨false, false, (.int .i64)⟩), (4, .v ⟨false, false, (.int .i64)⟩), (5, .v ⟨false, false, (.int .i64)⟩)]⟩ .nil)) .nil)) } }
noncomputable def i_laws_heldIntS : Inst := { f := 82, fn := Try.f82, n := 21, pds := [.rd (.sl 3 (.int .i64)), .rd (.int .i64)], caps := [], res := [⟨false, false, (.int .i64)⟩], h := { al := [], el := [], tk := [], nn := [], ca := [], code := (.two .nil (.join ⟨[1, 4], [(1, .v ⟨false, false, (.int .i64)⟩), (4, .v ⟨false, false, (.int .i64)⟩)]⟩ (.two .nil (.loop ⟨[1, 4, 5], [(1, .v ⟨false, false, (.int .i64)⟩), (4, .v ⟨false, false, (.int .i64)⟩), (5, .v ⟨false, false, (.int .i64)⟩)]⟩ .nil)) .nil)) } }
noncomputable def i_laws_heldStepS : Inst := { f := 49, fn := Try.f49, n := 31, pds := [.rd (.sl 50 (.pr (.int .i64) (.pr (.int .i64) .un))), .rd (.int .i64)], caps := [], res := [⟨false, false, (.int .i64)⟩], h := { al := [], el := [], tk := [], nn := [], ca := [], code := (.two .nil (.join ⟨[1, 4], [(1, .v ⟨false, false, (.int .i64)⟩), (4, .v ⟨false, false, (.int .i64)⟩)]⟩ (.two .nil (.loop ⟨[1, 4, 5], [(1, .v ⟨false, false, (.int .i64)⟩), (4, .v ⟨false, false, (.int .i64)⟩), (5, .v ⟨false, false, (.int .i64)⟩)]⟩ .nil)) .nil)) } }
noncomputable def FTL : List Inst := [i_laws_FnExactOnlyDirect, i_laws_szTableS, i_laws_szTable, i_laws_szOpS, i_laws_szOp, i_laws_szNodeS, i_laws_szNode, i_laws_szIntS, i_laws_szStepS, i_laws_toTableS, i_laws_toTable, i_laws_toOpS, i_laws_toOp, i_laws_toNodeS, i_laws_toNode, i_laws_toIntS, i_laws_toStepS, i_laws_toStep, i_spec_OnlyDirect, i_spec_l11Op, i_spec_l02Copy, i_spec_l01Copy, i_spec_Lift, i_spec_Closed, i_spec_PlanOk, i_spec_l01In, i_spec_NodeOk, i_spec_WordOk, i_spec_l02Col, i_spec_l01Number, i_spec_l02End, i_spec_ArityOf, i_spec_SlotsOf, i_spec_l01Has, i_spec_l07Literal, i_impl_OnlyDirect, i_impl_own, i_slices_Clone_Lint, i_impl_Lift, i_impl_Closed, i_impl_PlanOk, i_impl_in, i_slices_ContainsFunc_LimplNode_impl_PlanOk_1, i_slices_IndexFunc_LimplNode_impl_PlanOk_1, i_impl_PlanOk_1, i_impl_NodeOk, i_impl_WordOk, i_impl_isCol, i_impl_isSlot, i_impl_isNum, i_slices_ContainsFunc_Lint_impl_NodeOk_1, i_slices_IndexFunc_Lint_impl_NodeOk_1, i_impl_NodeOk_1, i_impl_sameNode, i_slices_Equal_Lint, i_impl_end, i_impl_ArityOf, i_impl_hasSlot, i_slices_ContainsFunc_LimplNode_impl_hasSlot_1, i_slices_IndexFunc_LimplNode_impl_hasSlot_1, i_impl_hasSlot_1, i_impl_Node_isLiteral, i_laws_eqOpS, i_laws_eqOp, i_laws_eqNodeS, i_laws_eqNode, i_laws_eqIntS, i_laws_eqStepS, i_laws_eqStep, i_laws_eqTableS, i_laws_eqTable, i_laws_markTableS, i_laws_markText, i_laws_markOpS, i_laws_markNodeS, i_laws_markIntS, i_laws_markStepS, i_laws_heldOpS, i_laws_heldNodeS, i_laws_heldIntS, i_laws_heldStepS]
noncomputable def FT (j : Nat) : Inst := FTL.getD j i_laws_FnExactOnlyDirect
noncomputable def SP (j : Nat) : Option (InVals (FT j) → Option (Tup (outTys (FT j)))) := none
theorem ft_ok : FTok Try.prog tt FT SP := FTok.of tt_ok (by kernel_rfl) ⟨Try.func5, Try.func5, Try.func13, Try.func54, Try.func25, Try.func64, Try.func14, Try.func55, Try.func83, Try.func90, Try.func16, Try.func58, Try.func27, Try.func67, Try.func18, Try.func59, Try.func17, Try.func93, Try.func117, Try.func26, Try.func65, Try.func77, Try.func108, Try.func66, Try.func91, Try.func102, Try.func84, Try.func121, Try.func134, Try.func136, Try.func137, Try.func100, Try.func110, Try.func116, Try.func78, Try.func92, Try.func28, Try.func68, Try.func94, Try.func69, Try.func95, Try.func107, Try.func103, Try.func126, Try.func139, Try.func127, Try.func128, Try.func140, Try.func141, Try.func142, Try.func143, Try.func112, Try.func130, Try.func144, Try.func145, Try.func146, Try.func106, Try.func125, Try.func118, Try.func126, Try.func139, Try.func133, Try.func96, Try.func29, Try.func70, Try.func22, Try.func62, Try.func21, Try.func44, Try.func39, Try.func20, Try.func61, Try.func30, Try.func71, Try.func31, Try.func45, Try.func46, Try.func47, Try.func32, Try.func48, Try.func82, Try.func49, trivial⟩ (by kernel_rfl) (fun _ _ h => by cases h)
noncomputable def F_laws_FnExactOnlyDirect (a0 : List STable) (a1 : List SOp) : Option Bool := callL tt FT SP 0 (show InVals (FT 0) from ((a0, a1, ()), (())))
noncomputable def F_laws_szTableS (a0 : List STable) (a1 : Int) : Option Int := callL tt FT SP 1 (show InVals (FT 1) from ((a0, a1, ()), (())))
noncomputable def F_laws_szTable (a0 : STable) (a1 : Int) : Option Int := callL tt FT SP 2 (show InVals (FT 2) from ((a0, a1, ()), (())))
noncomputable def F_laws_szOpS (a0 : List SOp) (a1 : Int) : Option Int := callL tt FT SP 3 (show InVals (FT 3) from ((a0, a1, ()), (())))
noncomputable def F_laws_szOp (a0 : SOp) (a1 : Int) : Option Int := callL tt FT SP 4 (show InVals (FT 4) from ((a0, a1, ()), (())))
noncomputable def F_laws_szNodeS (a0 : List SNode) (a1 : Int) : Option Int := callL tt FT SP 5 (show InVals (FT 5) from ((a0, a1, ()), (())))
noncomputable def F_laws_szNode (a0 : SNode) (a1 : Int) : Option Int := callL tt FT SP 6 (show InVals (FT 6) from ((a0, a1, ()), (())))
noncomputable def F_laws_szIntS (a0 : List Int) (a1 : Int) : Option Int := callL tt FT SP 7 (show InVals (FT 7) from ((a0, a1, ()), (())))
noncomputable def F_laws_szStepS (a0 : List SStep) (a1 : Int) : Option Int := callL tt FT SP 8 (show InVals (FT 8) from ((a0, a1, ()), (())))
noncomputable def F_laws_toTableS (a0 : List STable) : Option (List STable) := callL tt FT SP 9 (show InVals (FT 9) from ((a0, ()), (())))
noncomputable def F_laws_toTable (a0 : STable) : Option STable := callL tt FT SP 10 (show InVals (FT 10) from ((a0, ()), (())))
noncomputable def F_laws_toOpS (a0 : List SOp) : Option (List SOp) := callL tt FT SP 11 (show InVals (FT 11) from ((a0, ()), (())))
noncomputable def F_laws_toOp (a0 : SOp) : Option SOp := callL tt FT SP 12 (show InVals (FT 12) from ((a0, ()), (())))
noncomputable def F_laws_toNodeS (a0 : List SNode) : Option (List SNode) := callL tt FT SP 13 (show InVals (FT 13) from ((a0, ()), (())))
noncomputable def F_laws_toNode (a0 : SNode) : Option SNode := callL tt FT SP 14 (show InVals (FT 14) from ((a0, ()), (())))
noncomputable def F_laws_toIntS (a0 : List Int) : Option (List Int) := callL tt FT SP 15 (show InVals (FT 15) from ((a0, ()), (())))
noncomputable def F_laws_toStepS (a0 : List SStep) : Option (List SStep) := callL tt FT SP 16 (show InVals (FT 16) from ((a0, ()), (())))
noncomputable def F_laws_toStep (a0 : SStep) : Option SStep := callL tt FT SP 17 (show InVals (FT 17) from ((a0, ()), (())))
noncomputable def F_spec_OnlyDirect (a0 : List STable) (a1 : List SOp) : Option (List SOp) := callL tt FT SP 18 (show InVals (FT 18) from ((a0, a1, ()), (())))
noncomputable def F_spec_l11Op (a0 : SOp) : Option SOp := callL tt FT SP 19 (show InVals (FT 19) from ((a0, ()), (())))
noncomputable def F_spec_l02Copy (a0 : List SNode) : Option (List SNode) := callL tt FT SP 20 (show InVals (FT 20) from ((a0, ()), (())))
noncomputable def F_spec_l01Copy (a0 : List Int) : Option (List Int) := callL tt FT SP 21 (show InVals (FT 21) from ((a0, ()), (())))
noncomputable def F_spec_Lift (a0 : List SNode) : Option ((List SNode) × (List Int) × Bool) := callL tt FT SP 22 (show InVals (FT 22) from ((a0, ()), (())))
noncomputable def F_spec_Closed (a0 : List SNode) : Option Bool := callL tt FT SP 23 (show InVals (FT 23) from ((a0, ()), (())))
noncomputable def F_spec_PlanOk (a0 : List SNode) : Option Bool := callL tt FT SP 24 (show InVals (FT 24) from ((a0, ()), (())))
noncomputable def F_spec_l01In (a0 : Int) (a1 : Int) (a2 : Int) : Option Bool := callL tt FT SP 25 (show InVals (FT 25) from ((a0, a1, a2, ()), (())))
noncomputable def F_spec_NodeOk (a0 : SNode) : Option Bool := callL tt FT SP 26 (show InVals (FT 26) from ((a0, ()), (())))
noncomputable def F_spec_WordOk (a0 : ByteArray) : Option Bool := callL tt FT SP 27 (show InVals (FT 27) from ((a0, ()), (())))
noncomputable def F_spec_l02Col (a0 : Int) : Option Bool := callL tt FT SP 28 (show InVals (FT 28) from ((a0, ()), (())))
noncomputable def F_spec_l01Number (a0 : Int) : Option Bool := callL tt FT SP 29 (show InVals (FT 29) from ((a0, ()), (())))
noncomputable def F_spec_l02End (a0 : List SNode) (a1 : Int) (a2 : Int) : Option (Int × Int) := callL tt FT SP 30 (show InVals (FT 30) from ((a0, a1, a2, ()), (())))
noncomputable def F_spec_ArityOf (a0 : Int) : Option Int := callL tt FT SP 31 (show InVals (FT 31) from ((a0, ()), (())))
noncomputable def F_spec_SlotsOf (a0 : List SNode) : Option (List Int) := callL tt FT SP 32 (show InVals (FT 32) from ((a0, ()), (())))
noncomputable def F_spec_l01Has (a0 : List Int) (a1 : Int) : Option Bool := callL tt FT SP 33 (show InVals (FT 33) from ((a0, a1, ()), (())))
noncomputable def F_spec_l07Literal (a0 : SNode) : Option Bool := callL tt FT SP 34 (show InVals (FT 34) from ((a0, ()), (())))
noncomputable def F_impl_OnlyDirect (a0 : List STable) (a1 : List SOp) : Option (List SOp) := callL tt FT SP 35 (show InVals (FT 35) from ((a0, a1, ()), (())))
noncomputable def F_impl_own (a0 : List SNode) : Option (List SNode) := callL tt FT SP 36 (show InVals (FT 36) from ((a0, ()), (())))
noncomputable def F_slices_Clone_Lint (a0 : List Int) : Option (List Int) := callL tt FT SP 37 (show InVals (FT 37) from ((a0, ()), (())))
noncomputable def F_impl_Lift (a0 : List SNode) : Option ((List SNode) × (List Int) × Bool) := callL tt FT SP 38 (show InVals (FT 38) from ((a0, ()), (())))
noncomputable def F_impl_Closed (a0 : List SNode) : Option Bool := callL tt FT SP 39 (show InVals (FT 39) from ((a0, ()), (())))
noncomputable def F_impl_PlanOk (a0 : List SNode) : Option Bool := callL tt FT SP 40 (show InVals (FT 40) from ((a0, ()), (())))
noncomputable def F_impl_in (a0 : Int) (a1 : Int) (a2 : Int) : Option Bool := callL tt FT SP 41 (show InVals (FT 41) from ((a0, a1, a2, ()), (())))
noncomputable def F_slices_ContainsFunc_LimplNode_impl_PlanOk_1 (a0 : List SNode) : Option Bool := callL tt FT SP 42 (show InVals (FT 42) from ((a0, (()), ()), (())))
noncomputable def F_slices_IndexFunc_LimplNode_impl_PlanOk_1 (a0 : List SNode) : Option Int := callL tt FT SP 43 (show InVals (FT 43) from ((a0, (()), ()), (())))
noncomputable def F_impl_PlanOk_1 (a0 : SNode) : Option Bool := callL tt FT SP 44 (show InVals (FT 44) from ((a0, ()), (())))
noncomputable def F_impl_NodeOk (a0 : SNode) : Option Bool := callL tt FT SP 45 (show InVals (FT 45) from ((a0, ()), (())))
noncomputable def F_impl_WordOk (a0 : ByteArray) : Option Bool := callL tt FT SP 46 (show InVals (FT 46) from ((a0, ()), (())))
noncomputable def F_impl_isCol (a0 : Int) : Option Bool := callL tt FT SP 47 (show InVals (FT 47) from ((a0, ()), (())))
noncomputable def F_impl_isSlot (a0 : Int) : Option Bool := callL tt FT SP 48 (show InVals (FT 48) from ((a0, ()), (())))
noncomputable def F_impl_isNum (a0 : Int) : Option Bool := callL tt FT SP 49 (show InVals (FT 49) from ((a0, ()), (())))
noncomputable def F_slices_ContainsFunc_Lint_impl_NodeOk_1 (a0 : List Int) : Option Bool := callL tt FT SP 50 (show InVals (FT 50) from ((a0, (()), ()), (())))
noncomputable def F_slices_IndexFunc_Lint_impl_NodeOk_1 (a0 : List Int) : Option Int := callL tt FT SP 51 (show InVals (FT 51) from ((a0, (()), ()), (())))
noncomputable def F_impl_NodeOk_1 (a0 : Int) : Option Bool := callL tt FT SP 52 (show InVals (FT 52) from ((a0, ()), (())))
noncomputable def F_impl_sameNode (a0 : SNode) (a1 : SNode) : Option Bool := callL tt FT SP 53 (show InVals (FT 53) from ((a0, a1, ()), (())))
noncomputable def F_slices_Equal_Lint (a0 : List Int) (a1 : List Int) : Option Bool := callL tt FT SP 54 (show InVals (FT 54) from ((a0, a1, ()), (())))
noncomputable def F_impl_end (a0 : List SNode) (a1 : Int) (a2 : Int) : Option Int := callL tt FT SP 55 (show InVals (FT 55) from ((a0, a1, a2, ()), (())))
noncomputable def F_impl_ArityOf (a0 : Int) : Option Int := callL tt FT SP 56 (show InVals (FT 56) from ((a0, ()), (())))
noncomputable def F_impl_hasSlot (a0 : List SNode) : Option Bool := callL tt FT SP 57 (show InVals (FT 57) from ((a0, ()), (())))
noncomputable def F_slices_ContainsFunc_LimplNode_impl_hasSlot_1 (a0 : List SNode) : Option Bool := callL tt FT SP 58 (show InVals (FT 58) from ((a0, (()), ()), (())))
noncomputable def F_slices_IndexFunc_LimplNode_impl_hasSlot_1 (a0 : List SNode) : Option Int := callL tt FT SP 59 (show InVals (FT 59) from ((a0, (()), ()), (())))
noncomputable def F_impl_hasSlot_1 (a0 : SNode) : Option Bool := callL tt FT SP 60 (show InVals (FT 60) from ((a0, ()), (())))
noncomputable def F_impl_Node_isLiteral (a0 : SNode) : Option Bool := callL tt FT SP 61 (show InVals (FT 61) from ((a0, ()), (())))
noncomputable def F_laws_eqOpS (a0 : List SOp) (a1 : List SOp) : Option Bool := callL tt FT SP 62 (show InVals (FT 62) from ((a0, a1, ()), (())))
noncomputable def F_laws_eqOp (a0 : SOp) (a1 : SOp) : Option Bool := callL tt FT SP 63 (show InVals (FT 63) from ((a0, a1, ()), (())))
noncomputable def F_laws_eqNodeS (a0 : List SNode) (a1 : List SNode) : Option Bool := callL tt FT SP 64 (show InVals (FT 64) from ((a0, a1, ()), (())))
noncomputable def F_laws_eqNode (a0 : SNode) (a1 : SNode) : Option Bool := callL tt FT SP 65 (show InVals (FT 65) from ((a0, a1, ()), (())))
noncomputable def F_laws_eqIntS (a0 : List Int) (a1 : List Int) : Option Bool := callL tt FT SP 66 (show InVals (FT 66) from ((a0, a1, ()), (())))
noncomputable def F_laws_eqStepS (a0 : List SStep) (a1 : List SStep) : Option Bool := callL tt FT SP 67 (show InVals (FT 67) from ((a0, a1, ()), (())))
noncomputable def F_laws_eqStep (a0 : SStep) (a1 : SStep) : Option Bool := callL tt FT SP 68 (show InVals (FT 68) from ((a0, a1, ()), (())))
noncomputable def F_laws_eqTableS (a0 : List STable) (a1 : List STable) : Option Bool := callL tt FT SP 69 (show InVals (FT 69) from ((a0, a1, ()), (())))
noncomputable def F_laws_eqTable (a0 : STable) (a1 : STable) : Option Bool := callL tt FT SP 70 (show InVals (FT 70) from ((a0, a1, ()), (())))
noncomputable def F_laws_markTableS (a0 : List STable) (a1 : Int) : Option (Int × (List STable)) := callL tt FT SP 71 (show InVals (FT 71) from ((a0, a1, ()), (())))
noncomputable def F_laws_markText (a0 : Int) : Option ByteArray := callL tt FT SP 72 (show InVals (FT 72) from ((a0, ()), (())))
noncomputable def F_laws_markOpS (a0 : List SOp) (a1 : Int) : Option (Int × (List SOp)) := callL tt FT SP 73 (show InVals (FT 73) from ((a0, a1, ()), (())))
noncomputable def F_laws_markNodeS (a0 : List SNode) (a1 : Int) : Option (Int × (List SNode)) := callL tt FT SP 74 (show InVals (FT 74) from ((a0, a1, ()), (())))
noncomputable def F_laws_markIntS (a0 : List Int) (a1 : Int) : Option (Int × (List Int)) := callL tt FT SP 75 (show InVals (FT 75) from ((a0, a1, ()), (())))
noncomputable def F_laws_markStepS (a0 : List SStep) (a1 : Int) : Option (Int × (List SStep)) := callL tt FT SP 76 (show InVals (FT 76) from ((a0, a1, ()), (())))
noncomputable def F_laws_heldOpS (a0 : List SOp) (a1 : Int) : Option Int := callL tt FT SP 77 (show InVals (FT 77) from ((a0, a1, ()), (())))
noncomputable def F_laws_heldNodeS (a0 : List SNode) (a1 : Int) : Option Int := callL tt FT SP 78 (show InVals (FT 78) from ((a0, a1, ()), (())))
noncomputable def F_laws_heldIntS (a0 : List Int) (a1 : Int) : Option Int := callL tt FT SP 79 (show InVals (FT 79) from ((a0, a1, ()), (())))
noncomputable def F_laws_heldStepS (a0 : List SStep) (a1 : Int) : Option Int := callL tt FT SP 80 (show InVals (FT 80) from ((a0, a1, ()), (())))
@[simp] noncomputable def J_laws_FnExactOnlyDirectx0 (a0 : List STable) (a1 : List SOp) (y5 : List SOp) (y8 : List SOp) (v17 : Bool) : Option Bool :=
  (bif v17 then
  some false
  else (F_laws_markOpS y8 1).bind (fun y18 => (F_laws_heldOpS y18.2 1).bind (fun y19 => (bif (decide (y19 < 0)) then
  some false
  else (bif (y19 != y18.1) then
  some false
  else (F_laws_toTableS a0).bind (fun y20 => (F_laws_toOpS a1).bind (fun y21 => (F_impl_OnlyDirect y20 y21).bind (fun y22 => (F_laws_eqOpS y22 y5).bind (fun y23 => (bif (!y23) then
  some false
  else (F_laws_heldOpS y18.2 1).bind (fun y24 => (bif (decide (y24 < 0)) then
  some false
  else (bif (y24 != y18.1) then
  some false
  else some true)))))))))))))
theorem U_laws_FnExactOnlyDirect (a0 : List STable) (a1 : List SOp) : Le ((F_laws_szTableS a0 1048576).bind (fun y1 => (bif (decide (y1 < 0)) then
  some true
  else (F_laws_szOpS a1 y1).bind (fun y2 => (bif (decide (y2 < 0)) then
  some true
  else (F_laws_toTableS a0).bind (fun y3 => (F_laws_toOpS a1).bind (fun y4 => (F_spec_OnlyDirect y3 y4).bind (fun y5 => (F_laws_toTableS a0).bind (fun y6 => (F_laws_toOpS a1).bind (fun y7 => (F_impl_OnlyDirect y6 y7).bind (fun y8 => (F_laws_eqOpS y8 y5).bind (fun y9 => (bif (!y9) then
  some false
  else (F_laws_toTableS a0).bind (fun y10 => (F_laws_eqTableS y6 y10).bind (fun y11 => (bif (!y11) then
  some false
  else (F_laws_toOpS a1).bind (fun y12 => (F_laws_eqOpS y7 y12).bind (fun y13 => (bif (!y13) then
  some false
  else (F_laws_markTableS y6 1).bind (fun y14 => (F_laws_markOpS y7 y14.1).bind (fun y15 => joinK ((bif (decide (y15.1 < 0)) then
  some (.go true)
  else (F_laws_eqOpS y8 y5).bind (fun y16 => some (.go (!y16)))))
  (fun s => J_laws_FnExactOnlyDirectx0 a0 a1 y5 y8 s)))))))))))))))))))))) (F_laws_FnExactOnlyDirect a0 a1) := callL_le (tt := tt) (FT := FT) (SP := SP) (j := 0) rfl (by kernel_rfl)
noncomputable def L_laws_szTableSx0 (a0 : List STable) (f0 : (Int × Int × Int) → Option (Ex Int (Int × Int))) (v1 : Int) (v2 : Int) (v3 : Int) : Option (Ex Int (Int × Int)) :=
  (bif (decide (v3 < (a0.length : Int))) then
  (ix a0 v3).bind (fun z4 => (F_laws_szTable z4 v1).bind (fun y5 => (bif (decide (y5 < 0)) then
  some (.ret (-1))
  else f0 (y5, v2, (IntKind.i64.wrap (v3 + 1))))))
  else some (.go (v1, v2)))
@[simp] noncomputable def J_laws_szTableSx0 (v6 : Int) (v7 : Int) : Option Int :=
  some v6
theorem U_laws_szTableS (a0 : List STable) (a1 : Int) : Le ((bif (decide ((IntKind.i64.wrap (a1 - (a0.length : Int))) < 0)) then
  some (-1)
  else joinK (loopF (fun f s => L_laws_szTableSx0 a0 f s.1 s.2.1 s.2.2) ((IntKind.i64.wrap (a1 - (a0.length : Int))), 0, 0))
  (fun s => J_laws_szTableSx0 s.1 s.2))) (F_laws_szTableS a0 a1) := callL_le (tt := tt) (FT := FT) (SP := SP) (j := 1) rfl (by kernel_rfl)
theorem U_laws_szTable (a0 : STable) (a1 : Int) : Le ((bif (decide ((IntKind.i64.wrap (a1 - (a0.1.size : Int))) < 0)) then
  some (-1)
  else some (IntKind.i64.wrap (a1 - (a0.1.size : Int))))) (F_laws_szTable a0 a1) := callL_le (tt := tt) (FT := FT) (SP := SP) (j := 2) rfl (by kernel_rfl)
noncomputable def L_laws_szOpSx0 (a0 : List SOp) (f0 : (Int × Int × Int) → Option (Ex Int (Int × Int))) (v1 : Int) (v2 : Int) (v3 : Int) : Option (Ex Int (Int × Int)) :=
  (bif (decide (v3 < (a0.length : Int))) then
  (ix a0 v3).bind (fun z4 => (F_laws_szOp z4 v1).bind (fun y5 => (bif (decide (y5 < 0)) then
  some (.ret (-1))
  else f0 (y5, v2, (IntKind.i64.wrap (v3 + 1))))))
  else some (.go (v1, v2)))
@[simp] noncomputable def J_laws_szOpSx0 (v6 : Int) (v7 : Int) : Option Int :=
  some v6
theorem U_laws_szOpS (a0 : List SOp) (a1 : Int) : Le ((bif (decide ((IntKind.i64.wrap (a1 - (a0.length : Int))) < 0)) then
  some (-1)
  else joinK (loopF (fun f s => L_laws_szOpSx0 a0 f s.1 s.2.1 s.2.2) ((IntKind.i64.wrap (a1 - (a0.length : Int))), 0, 0))
  (fun s => J_laws_szOpSx0 s.1 s.2))) (F_laws_szOpS a0 a1) := callL_le (tt := tt) (FT := FT) (SP := SP) (j := 3) rfl (by kernel_rfl)
theorem U_laws_szOp (a0 : SOp) (a1 : Int) : Le ((F_laws_szNodeS a0.2.1 a1).bind (fun y1 => (bif (decide (y1 < 0)) then
  some (-1)
  else (F_laws_szNodeS a0.2.2.1 y1).bind (fun y2 => (bif (decide (y2 < 0)) then
  some (-1)
  else (F_laws_szStepS a0.2.2.2.1 y2).bind (fun y3 => (bif (decide (y3 < 0)) then
  some (-1)
  else some y3))))))) (F_laws_szOp a0 a1) := callL_le (tt := tt) (FT := FT) (SP := SP) (j := 4) rfl (by kernel_rfl)
noncomputable def L_laws_szNodeSx0 (a0 : List SNode) (f0 : (Int × Int × Int) → Option (Ex Int (Int × Int))) (v1 : Int) (v2 : Int) (v3 : Int) : Option (Ex Int (Int × Int)) :=
  (bif (decide (v3 < (a0.length : Int))) then
  (ix a0 v3).bind (fun z4 => (F_laws_szNode z4 v1).bind (fun y5 => (bif (decide (y5 < 0)) then
  some (.ret (-1))
  else f0 (y5, v2, (IntKind.i64.wrap (v3 + 1))))))
  else some (.go (v1, v2)))
@[simp] noncomputable def J_laws_szNodeSx0 (v6 : Int) (v7 : Int) : Option Int :=
  some v6
theorem U_laws_szNodeS (a0 : List SNode) (a1 : Int) : Le ((bif (decide ((IntKind.i64.wrap (a1 - (a0.length : Int))) < 0)) then
  some (-1)
  else joinK (loopF (fun f s => L_laws_szNodeSx0 a0 f s.1 s.2.1 s.2.2) ((IntKind.i64.wrap (a1 - (a0.length : Int))), 0, 0))
  (fun s => J_laws_szNodeSx0 s.1 s.2))) (F_laws_szNodeS a0 a1) := callL_le (tt := tt) (FT := FT) (SP := SP) (j := 5) rfl (by kernel_rfl)
theorem U_laws_szNode (a0 : SNode) (a1 : Int) : Le ((bif (decide ((IntKind.i64.wrap (a1 - (a0.2.1.size : Int))) < 0)) then
  some (-1)
  else (F_laws_szIntS a0.2.2.2.2.2.2.1 (IntKind.i64.wrap (a1 - (a0.2.1.size : Int)))).bind (fun y1 => (bif (decide (y1 < 0)) then
  some (-1)
  else some y1)))) (F_laws_szNode a0 a1) := callL_le (tt := tt) (FT := FT) (SP := SP) (j := 6) rfl (by kernel_rfl)
theorem U_laws_szIntS (a0 : List Int) (a1 : Int) : Le ((bif (decide ((IntKind.i64.wrap (a1 - (a0.length : Int))) < 0)) then
  some (-1)
  else some (IntKind.i64.wrap (a1 - (a0.length : Int))))) (F_laws_szIntS a0 a1) := callL_le (tt := tt) (FT := FT) (SP := SP) (j := 7) rfl (by kernel_rfl)
theorem U_laws_szStepS (a0 : List SStep) (a1 : Int) : Le ((bif (decide ((IntKind.i64.wrap (a1 - (a0.length : Int))) < 0)) then
  some (-1)
  else some (IntKind.i64.wrap (a1 - (a0.length : Int))))) (F_laws_szStepS a0 a1) := callL_le (tt := tt) (FT := FT) (SP := SP) (j := 8) rfl (by kernel_rfl)
noncomputable def L_laws_toTableSx0 (a0 : List STable) (f0 : ((List STable) × Int) → Option (Ex (List STable) (List STable))) (v2 : List STable) (v3 : Int) : Option (Ex (List STable) (List STable)) :=
  (bif (decide (v3 < (a0.length : Int))) then
  (ix a0 v3).bind (fun z4 => (F_laws_toTable z4).bind (fun y5 => (ix v2 v3).bind (fun z6 => (stx v2 v3 y5).bind (fun z7 => f0 (z7, (IntKind.i64.wrap (v3 + 1)))))))
  else some (.go v2))
@[simp] noncomputable def J_laws_toTableSx0 (v8 : List STable) : Option (List STable) :=
  some v8
theorem U_laws_toTableS (a0 : List STable) : Le ((mkx (a0.length : Int) ((ByteArray.empty, (0, ())) : STable)).bind (fun z1 => joinK (loopF (fun f s => L_laws_toTableSx0 a0 f s.1 s.2) (z1, 0))
  (fun s => J_laws_toTableSx0 s))) (F_laws_toTableS a0) := callL_le (tt := tt) (FT := FT) (SP := SP) (j := 9) rfl (by kernel_rfl)
theorem U_laws_toTable (a0 : STable) : Le (some (a0.1, (a0.2.1, ()))) (F_laws_toTable a0) := callL_le (tt := tt) (FT := FT) (SP := SP) (j := 10) rfl (by kernel_rfl)
noncomputable def L_laws_toOpSx0 (a0 : List SOp) (f0 : ((List SOp) × Int) → Option (Ex (List SOp) (List SOp))) (v2 : List SOp) (v3 : Int) : Option (Ex (List SOp) (List SOp)) :=
  (bif (decide (v3 < (a0.length : Int))) then
  (ix a0 v3).bind (fun z4 => (F_laws_toOp z4).bind (fun y5 => (ix v2 v3).bind (fun z6 => (stx v2 v3 y5).bind (fun z7 => f0 (z7, (IntKind.i64.wrap (v3 + 1)))))))
  else some (.go v2))
@[simp] noncomputable def J_laws_toOpSx0 (v8 : List SOp) : Option (List SOp) :=
  some v8
theorem U_laws_toOpS (a0 : List SOp) : Le ((mkx (a0.length : Int) ((0, ([], ([], ([], ())))) : SOp)).bind (fun z1 => joinK (loopF (fun f s => L_laws_toOpSx0 a0 f s.1 s.2) (z1, 0))
  (fun s => J_laws_toOpSx0 s))) (F_laws_toOpS a0) := callL_le (tt := tt) (FT := FT) (SP := SP) (j := 11) rfl (by kernel_rfl)
theorem U_laws_toOp (a0 : SOp) : Le ((F_laws_toNodeS a0.2.1).bind (fun y1 => (F_laws_toNodeS a0.2.2.1).bind (fun y2 => (F_laws_toStepS a0.2.2.2.1).bind (fun y3 => some (a0.1, (y1, (y2, (y3, ())))))))) (F_laws_toOp a0) := callL_le (tt := tt) (FT := FT) (SP := SP) (j := 12) rfl (by kernel_rfl)
noncomputable def L_laws_toNodeSx0 (a0 : List SNode) (f0 : ((List SNode) × Int) → Option (Ex (List SNode) (List SNode))) (v2 : List SNode) (v3 : Int) : Option (Ex (List SNode) (List SNode)) :=
  (bif (decide (v3 < (a0.length : Int))) then
  (ix a0 v3).bind (fun z4 => (F_laws_toNode z4).bind (fun y5 => (ix v2 v3).bind (fun z6 => (stx v2 v3 y5).bind (fun z7 => f0 (z7, (IntKind.i64.wrap (v3 + 1)))))))
  else some (.go v2))
@[simp] noncomputable def J_laws_toNodeSx0 (v8 : List SNode) : Option (List SNode) :=
  some v8
theorem U_laws_toNodeS (a0 : List SNode) : Le ((mkx (a0.length : Int) ((0, (ByteArray.empty, (0, (0, (0, (false, ([], ()))))))) : SNode)).bind (fun z1 => joinK (loopF (fun f s => L_laws_toNodeSx0 a0 f s.1 s.2) (z1, 0))
  (fun s => J_laws_toNodeSx0 s))) (F_laws_toNodeS a0) := callL_le (tt := tt) (FT := FT) (SP := SP) (j := 13) rfl (by kernel_rfl)
theorem U_laws_toNode (a0 : SNode) : Le ((F_laws_toIntS a0.2.2.2.2.2.2.1).bind (fun y1 => some (a0.1, (a0.2.1, (a0.2.2.1, (a0.2.2.2.1, (a0.2.2.2.2.1, (a0.2.2.2.2.2.1, (y1, ()))))))))) (F_laws_toNode a0) := callL_le (tt := tt) (FT := FT) (SP := SP) (j := 14) rfl (by kernel_rfl)
noncomputable def L_laws_toIntSx0 (a0 : List Int) (f0 : ((List Int) × Int) → Option (Ex (List Int) (List Int))) (v2 : List Int) (v3 : Int) : Option (Ex (List Int) (List Int)) :=
  (bif (decide (v3 < (a0.length : Int))) then
  (ix a0 v3).bind (fun z4 => (ix v2 v3).bind (fun z5 => (stx v2 v3 z4).bind (fun z6 => f0 (z6, (IntKind.i64.wrap (v3 + 1))))))
  else some (.go v2))
@[simp] noncomputable def J_laws_toIntSx0 (v7 : List Int) : Option (List Int) :=
  some v7
theorem U_laws_toIntS (a0 : List Int) : Le ((mkx (a0.length : Int) (0 : Int)).bind (fun z1 => joinK (loopF (fun f s => L_laws_toIntSx0 a0 f s.1 s.2) (z1, 0))
  (fun s => J_laws_toIntSx0 s))) (F_laws_toIntS a0) := callL_le (tt := tt) (FT := FT) (SP := SP) (j := 15) rfl (by kernel_rfl)
noncomputable def L_laws_toStepSx0 (a0 : List SStep) (f0 : ((List SStep) × Int) → Option (Ex (List SStep) (List SStep))) (v2 : List SStep) (v3 : Int) : Option (Ex (List SStep) (List SStep)) :=
  (bif (decide (v3 < (a0.length : Int))) then
  (ix a0 v3).bind (fun z4 => (F_laws_toStep z4).bind (fun y5 => (ix v2 v3).bind (fun z6 => (stx v2 v3 y5).bind (fun z7 => f0 (z7, (IntKind.i64.wrap (v3 + 1)))))))
  else some (.go v2))
@[simp] noncomputable def J_laws_toStepSx0 (v8 : List SStep) : Option (List SStep) :=
  some v8
theorem U_laws_toStepS (a0 : List SStep) : Le ((mkx (a0.length : Int) ((0, (0, ())) : SStep)).bind (fun z1 => joinK (loopF (fun f s => L_laws_toStepSx0 a0 f s.1 s.2) (z1, 0))
  (fun s => J_laws_toStepSx0 s))) (F_laws_toStepS a0) := callL_le (tt := tt) (FT := FT) (SP := SP) (j := 16) rfl (by kernel_rfl)
theorem U_laws_toStep (a0 : SStep) : Le (some (a0.1, (a0.2.1, ()))) (F_laws_toStep a0) := callL_le (tt := tt) (FT := FT) (SP := SP) (j := 17) rfl (by kernel_rfl)
@[simp] noncomputable def J_spec_OnlyDirectx2 (y4 : SOp) (y5 : ((List SNode) × (List Int) × Bool)) (v6 : Bool) : Option (Ex (Ex (List SOp) (List SOp)) (Int × (List SNode) × (List SNode) × (List SStep))) :=
  (bif v6 then
  some (.go (y4.1, y4.2.1, y5.1, []))
  else some (.go (y4.1, y4.2.1, y4.2.2.1, y4.2.2.2.1)))
@[simp] noncomputable def J_spec_OnlyDirectx1 (v1 : List SOp) (v2 : Int) (f0 : ((List SOp) × Int) → Option (Ex (List SOp) (List SOp))) (v7 : Int) (v8 : List SNode) (v9 : List SNode) (v10 : List SStep) : Option (Ex (List SOp) (List SOp)) :=
  (apx v1 ([(v7, (v8, (v9, (v10, ()))))])).bind (fun z11 => f0 (z11, (IntKind.i64.wrap (v2 + 1))))
noncomputable def L_spec_OnlyDirectx0 (a1 : List SOp) (f0 : ((List SOp) × Int) → Option (Ex (List SOp) (List SOp))) (v1 : List SOp) (v2 : Int) : Option (Ex (List SOp) (List SOp)) :=
  (bif (decide (v2 < (a1.length : Int))) then
  (ix a1 v2).bind (fun z3 => (F_spec_l11Op z3).bind (fun y4 => (F_spec_Lift y4.2.1).bind (fun y5 => joinK (joinK ((bif (y4.1 == 0) then
  some (.go y5.2.2)
  else some (.go false)))
  (fun s => J_spec_OnlyDirectx2 y4 y5 s))
  (fun s => J_spec_OnlyDirectx1 v1 v2 f0 s.1 s.2.1 s.2.2.1 s.2.2.2))))
  else some (.go v1))
@[simp] noncomputable def J_spec_OnlyDirectx0 (v12 : List SOp) : Option (List SOp) :=
  some v12
theorem U_spec_OnlyDirect (a0 : List STable) (a1 : List SOp) : Le (joinK (loopF (fun f s => L_spec_OnlyDirectx0 a1 f s.1 s.2) ([], 0))
  (fun s => J_spec_OnlyDirectx0 s)) (F_spec_OnlyDirect a0 a1) := callL_le (tt := tt) (FT := FT) (SP := SP) (j := 18) rfl (by kernel_rfl)
noncomputable def L_spec_l11Opx0 (a0 : SOp) (f0 : (Int × (List SNode) × (List SNode) × (List SStep) × Int) → Option (Ex SOp (Int × (List SNode) × (List SNode) × (List SStep)))) (v3 : Int) (v4 : List SNode) (v5 : List SNode) (v6 : List SStep) (v7 : Int) : Option (Ex SOp (Int × (List SNode) × (List SNode) × (List SStep))) :=
  (bif (decide (v7 < (a0.2.2.2.1.length : Int))) then
  (ix a0.2.2.2.1 v7).bind (fun z8 => (apx v6 ([z8])).bind (fun z9 => f0 (v3, v4, v5, z9, (IntKind.i64.wrap (v7 + 1)))))
  else some (.go (v3, v4, v5, v6)))
@[simp] noncomputable def J_spec_l11Opx0 (v10 : Int) (v11 : List SNode) (v12 : List SNode) (v13 : List SStep) : Option SOp :=
  some (v10, (v11, (v12, (v13, ()))))
theorem U_spec_l11Op (a0 : SOp) : Le ((F_spec_l02Copy a0.2.1).bind (fun y1 => (F_spec_l02Copy a0.2.2.1).bind (fun y2 => joinK (loopF (fun f s => L_spec_l11Opx0 a0 f s.1 s.2.1 s.2.2.1 s.2.2.2.1 s.2.2.2.2) (a0.1, y1, y2, [], 0))
  (fun s => J_spec_l11Opx0 s.1 s.2.1 s.2.2.1 s.2.2.2)))) (F_spec_l11Op a0) := callL_le (tt := tt) (FT := FT) (SP := SP) (j := 19) rfl (by kernel_rfl)
@[simp] noncomputable def J_spec_l02Copyx1 (v1 : List SNode) (v2 : Int) (f0 : ((List SNode) × Int) → Option (Ex (List SNode) (List SNode))) (v7 : Int) (v8 : ByteArray) (v9 : Int) (v10 : Int) (v11 : Int) (v12 : Bool) (v13 : List Int) : Option (Ex (List SNode) (List SNode)) :=
  (apx v1 ([(v7, (v8, (v9, (v10, (v11, (v12, (v13, ())))))))])).bind (fun z14 => f0 (z14, (IntKind.i64.wrap (v2 + 1))))
noncomputable def L_spec_l02Copyx0 (a0 : List SNode) (f0 : ((List SNode) × Int) → Option (Ex (List SNode) (List SNode))) (v1 : List SNode) (v2 : Int) : Option (Ex (List SNode) (List SNode)) :=
  (bif (decide (v2 < (a0.length : Int))) then
  (ix a0 v2).bind (fun z3 => joinK ((ix a0 v2).bind (fun z4 => (bif (decide ((z4.2.2.2.2.2.2.1.length : Int) > 0)) then
  (ix a0 v2).bind (fun z5 => (F_spec_l01Copy z5.2.2.2.2.2.2.1).bind (fun y6 => some (.go (z3.1, z3.2.1, z3.2.2.1, z3.2.2.2.1, z3.2.2.2.2.1, z3.2.2.2.2.2.1, y6))))
  else some (.go (z3.1, z3.2.1, z3.2.2.1, z3.2.2.2.1, z3.2.2.2.2.1, z3.2.2.2.2.2.1, [])))))
  (fun s => J_spec_l02Copyx1 v1 v2 f0 s.1 s.2.1 s.2.2.1 s.2.2.2.1 s.2.2.2.2.1 s.2.2.2.2.2.1 s.2.2.2.2.2.2))
  else some (.go v1))
@[simp] noncomputable def J_spec_l02Copyx0 (v15 : List SNode) : Option (List SNode) :=
  some v15
theorem U_spec_l02Copy (a0 : List SNode) : Le (joinK (loopF (fun f s => L_spec_l02Copyx0 a0 f s.1 s.2) ([], 0))
  (fun s => J_spec_l02Copyx0 s)) (F_spec_l02Copy a0) := callL_le (tt := tt) (FT := FT) (SP := SP) (j := 20) rfl (by kernel_rfl)
noncomputable def L_spec_l01Copyx0 (a0 : List Int) (f0 : ((List Int) × Int) → Option (Ex (List Int) (List Int))) (v1 : List Int) (v2 : Int) : Option (Ex (List Int) (List Int)) :=
  (bif (decide (v2 < (a0.length : Int))) then
  (ix a0 v2).bind (fun z3 => (apx v1 ([z3])).bind (fun z4 => f0 (z4, (IntKind.i64.wrap (v2 + 1)))))
  else some (.go v1))
@[simp] noncomputable def J_spec_l01Copyx0 (v5 : List Int) : Option (List Int) :=
  some v5
theorem U_spec_l01Copy (a0 : List Int) : Le (joinK (loopF (fun f s => L_spec_l01Copyx0 a0 f s.1 s.2) ([], 0))
  (fun s => J_spec_l01Copyx0 s)) (F_spec_l01Copy a0) := callL_le (tt := tt) (FT := FT) (SP := SP) (j := 21) rfl (by kernel_rfl)
@[simp] noncomputable def J_spec_Liftx1 (v5 : Int) (f0 : ((List SNode) × (List Int) × Int) → Option (Ex ((List SNode) × (List Int) × Bool) ((List SNode) × (List Int)))) (v14 : List SNode) (v15 : List Int) : Option (Ex ((List SNode) × (List Int) × Bool) ((List SNode) × (List Int))) :=
  f0 (v14, v15, (IntKind.i64.wrap (v5 + 1)))
noncomputable def L_spec_Liftx0 (f0 : ((List SNode) × (List Int) × Int) → Option (Ex ((List SNode) × (List Int) × Bool) ((List SNode) × (List Int)))) (v3 : List SNode) (v4 : List Int) (v5 : Int) : Option (Ex ((List SNode) × (List Int) × Bool) ((List SNode) × (List Int))) :=
  (bif (decide (v5 < (v3.length : Int))) then
  joinK ((ix v3 v5).bind (fun z6 => (F_spec_l07Literal z6).bind (fun y7 => (bif (!y7) then
  some (.go (v3, v4))
  else (ix v3 v5).bind (fun z8 => (apx v4 ([z8.2.2.2.2.1])).bind (fun z9 => (ix v3 v5).bind (fun z10 => (ix v3 v5).bind (fun z11 => (ix (v3.set (v5).toNat (z11.1, (z11.2.1, (z11.2.2.1, (z11.2.2.2.1, (z11.2.2.2.2.1, (true, z11.2.2.2.2.2.2))))))) v5).bind (fun z12 => (ix (v3.set (v5).toNat (z11.1, (z11.2.1, (z11.2.2.1, (z11.2.2.2.1, (z11.2.2.2.2.1, (true, z11.2.2.2.2.2.2))))))) v5).bind (fun z13 => some (.go (((v3.set (v5).toNat (z11.1, (z11.2.1, (z11.2.2.1, (z11.2.2.2.1, (z11.2.2.2.2.1, (true, z11.2.2.2.2.2.2))))))).set (v5).toNat (z13.1, (z13.2.1, (z13.2.2.1, (z13.2.2.2.1, ((IntKind.i64.wrap ((z9.length : Int) - 1)), z13.2.2.2.2.2)))))), z9))))))))))))
  (fun s => J_spec_Liftx1 v5 f0 s.1 s.2)
  else some (.go (v3, v4)))
@[simp] noncomputable def J_spec_Liftx0 (v16 : List SNode) (v17 : List Int) : Option ((List SNode) × (List Int) × Bool) :=
  some (v16, v17, true)
theorem U_spec_Lift (a0 : List SNode) : Le ((F_spec_Closed a0).bind (fun y1 => (bif (!y1) then
  some ([], [], false)
  else (F_spec_l02Copy a0).bind (fun y2 => joinK (loopF (fun f s => L_spec_Liftx0 f s.1 s.2.1 s.2.2) (y2, [], 0))
  (fun s => J_spec_Liftx0 s.1 s.2))))) (F_spec_Lift a0) := callL_le (tt := tt) (FT := FT) (SP := SP) (j := 22) rfl (by kernel_rfl)
@[simp] noncomputable def J_spec_Closedx0 (v3 : Bool) : Option Bool :=
  some v3
theorem U_spec_Closed (a0 : List SNode) : Le (joinK ((F_spec_PlanOk a0).bind (fun y1 => (bif y1 then
  (F_spec_SlotsOf a0).bind (fun y2 => some (.go ((y2.length : Int) == 0)))
  else some (.go false))))
  (fun s => J_spec_Closedx0 s)) (F_spec_Closed a0) := callL_le (tt := tt) (FT := FT) (SP := SP) (j := 23) rfl (by kernel_rfl)
noncomputable def L_spec_PlanOkx0 (a0 : List SNode) (f0 : (Bool × Int) → Option (Ex Bool Bool)) (v2 : Bool) (v3 : Int) : Option (Ex Bool Bool) :=
  (bif (decide (v3 < (a0.length : Int))) then
  (ix a0 v3).bind (fun z4 => (F_spec_NodeOk z4).bind (fun y5 => (bif (!y5) then
  some (.ret false)
  else f0 (v2, (IntKind.i64.wrap (v3 + 1))))))
  else some (.go v2))
@[simp] noncomputable def J_spec_PlanOkx0 (a0 : List SNode) (v6 : Bool) : Option Bool :=
  (F_spec_l02End a0 0 10).bind (fun y7 => some (y7.1 == (a0.length : Int)))
theorem U_spec_PlanOk (a0 : List SNode) : Le ((F_spec_l01In (a0.length : Int) 1 40).bind (fun y1 => (bif (!y1) then
  some false
  else joinK (loopF (fun f s => L_spec_PlanOkx0 a0 f s.1 s.2) (false, 0))
  (fun s => J_spec_PlanOkx0 a0 s)))) (F_spec_PlanOk a0) := callL_le (tt := tt) (FT := FT) (SP := SP) (j := 24) rfl (by kernel_rfl)
@[simp] noncomputable def J_spec_l01Inx0 (v1 : Bool) : Option Bool :=
  some v1
theorem U_spec_l01In (a0 : Int) (a1 : Int) (a2 : Int) : Le (joinK ((bif (decide (a1 ≤ a0)) then
  some (.go (decide (a0 ≤ a2)))
  else some (.go false)))
  (fun s => J_spec_l01Inx0 s)) (F_spec_l01In a0 a1 a2) := callL_le (tt := tt) (FT := FT) (SP := SP) (j := 25) rfl (by kernel_rfl)
@[simp] noncomputable def J_spec_NodeOkx2 (v11 : Bool) : Option (Ex Bool Bool) :=
  some (.ret v11)
@[simp] noncomputable def J_spec_NodeOkx3 (v15 : Bool) : Option (Ex Bool Bool) :=
  some (.ret v15)
noncomputable def L_spec_NodeOkx0 (a0 : SNode) (f0 : (Bool × Int) → Option (Ex (Ex Bool Bool) Bool)) (v16 : Bool) (v17 : Int) : Option (Ex (Ex Bool Bool) Bool) :=
  (bif (decide (v17 < (a0.2.2.2.2.2.2.1.length : Int))) then
  (ix a0.2.2.2.2.2.2.1 v17).bind (fun z18 => (F_spec_l02Col z18).bind (fun y19 => (bif (!y19) then
  some (.ret (.ret false))
  else f0 (v16, (IntKind.i64.wrap (v17 + 1))))))
  else some (.go v16))
@[simp] noncomputable def J_spec_NodeOkx5 (v22 : Bool) : Option (Ex Bool Bool) :=
  some (.ret v22)
@[simp] noncomputable def J_spec_NodeOkx4 (a0 : SNode) (v20 : Bool) : Option (Ex Bool Bool) :=
  joinK ((F_spec_l01In (a0.2.2.2.2.2.2.1.length : Int) 1 6).bind (fun y21 => (bif y21 then
  (bif (a0.2.2.1 == 0) then
  (bif (a0.2.2.2.2.1 == 0) then
  some (.go (!a0.2.2.2.2.2.1))
  else some (.go false))
  else some (.go false))
  else some (.go false))))
  (fun s => J_spec_NodeOkx5 s)
@[simp] noncomputable def J_spec_NodeOkx6 (v25 : Bool) : Option (Ex Bool Bool) :=
  some (.ret v25)
@[simp] noncomputable def J_spec_NodeOkx7 (v27 : Bool) : Option (Ex Bool Bool) :=
  some (.ret v27)
@[simp] noncomputable def J_spec_NodeOkx8 (v29 : Bool) : Option (Ex Bool Bool) :=
  some (.ret v29)
@[simp] noncomputable def J_spec_NodeOkx10 (v31 : Bool) : Option (Ex Bool Bool) :=
  some (.ret v31)
@[simp] noncomputable def J_spec_NodeOkx9 (a0 : SNode) (v30 : Bool) : Option (Ex Bool Bool) :=
  (bif v30 then
  joinK ((bif (a0.2.2.1 == 0) then
  (bif (a0.2.2.2.2.1 == 0) then
  some (.go (!a0.2.2.2.2.2.1))
  else some (.go false))
  else some (.go false)))
  (fun s => J_spec_NodeOkx10 s)
  else some (.go false))
@[simp] noncomputable def J_spec_NodeOkx1 (v32 : Bool) : Option Bool :=
  some false
@[simp] noncomputable def J_spec_NodeOkx0 (a0 : SNode) (v9 : Bool) : Option Bool :=
  (bif v9 then
  some false
  else joinK ((bif (a0.1 == 0) then
  joinK ((F_spec_WordOk a0.2.1).bind (fun y10 => (bif y10 then
  (bif (a0.2.2.1 == 0) then
  (bif (a0.2.2.2.2.1 == 0) then
  some (.go (!a0.2.2.2.2.2.1))
  else some (.go false))
  else some (.go false))
  else some (.go false))))
  (fun s => J_spec_NodeOkx2 s)
  else (bif (a0.1 == 1) then
  joinK ((F_spec_l02Col a0.2.2.1).bind (fun y12 => (bif y12 then
  (F_spec_l01In a0.2.2.2.1 0 3).bind (fun y13 => (bif y13 then
  (F_spec_l01Number a0.2.2.2.2.1).bind (fun y14 => (bif y14 then
  (bif (a0.2.2.2.1 != 3) then
  some (.go true)
  else (bif (a0.2.2.2.2.1 == 0) then
  some (.go (!a0.2.2.2.2.2.1))
  else some (.go false)))
  else some (.go false)))
  else some (.go false)))
  else some (.go false))))
  (fun s => J_spec_NodeOkx3 s)
  else (bif (a0.1 == 2) then
  joinK (loopF (fun f s => L_spec_NodeOkx0 a0 f s.1 s.2) (false, 0))
  (fun s => J_spec_NodeOkx4 a0 s)
  else (bif (a0.1 == 3) then
  joinK ((F_spec_l02Col a0.2.2.1).bind (fun y23 => (bif y23 then
  (F_spec_l02Col a0.2.2.2.2.1).bind (fun y24 => (bif y24 then
  some (.go (!a0.2.2.2.2.2.1))
  else some (.go false)))
  else some (.go false))))
  (fun s => J_spec_NodeOkx6 s)
  else (bif (a0.1 == 5) then
  joinK ((F_spec_l02Col a0.2.2.1).bind (fun y26 => (bif y26 then
  (bif (a0.2.2.2.2.1 == 0) then
  some (.go (!a0.2.2.2.2.2.1))
  else some (.go false))
  else some (.go false))))
  (fun s => J_spec_NodeOkx7 s)
  else (bif (a0.1 == 6) then
  joinK ((bif (a0.2.2.1 == 0) then
  (F_spec_l01In a0.2.2.2.2.1 0 1000000).bind (fun y28 => some (.go y28))
  else some (.go false)))
  (fun s => J_spec_NodeOkx8 s)
  else joinK ((bif (a0.1 == 4) then
  some (.go true)
  else some (.go (a0.1 == 7))))
  (fun s => J_spec_NodeOkx9 a0 s))))))))
  (fun s => J_spec_NodeOkx1 s))
theorem U_spec_NodeOk (a0 : SNode) : Le (joinK ((bif (a0.1 != 0) then
  (bif (!(a0.2.1.toList == ByteArray.empty.toList)) then
  some (.go true)
  else (bif (a0.1 != 2) then
  (bif (decide ((a0.2.2.2.2.2.2.1.length : Int) > 0)) then
  some (.go true)
  else (bif (a0.1 != 1) then
  (bif (a0.2.2.2.1 != 0) then
  some (.go true)
  else (bif a0.2.2.2.2.2.1 then
  (F_spec_l01In a0.2.2.2.2.1 0 39).bind (fun y1 => some (.go (!y1)))
  else some (.go false)))
  else (bif a0.2.2.2.2.2.1 then
  (F_spec_l01In a0.2.2.2.2.1 0 39).bind (fun y2 => some (.go (!y2)))
  else some (.go false))))
  else (bif (a0.1 != 1) then
  (bif (a0.2.2.2.1 != 0) then
  some (.go true)
  else (bif a0.2.2.2.2.2.1 then
  (F_spec_l01In a0.2.2.2.2.1 0 39).bind (fun y3 => some (.go (!y3)))
  else some (.go false)))
  else (bif a0.2.2.2.2.2.1 then
  (F_spec_l01In a0.2.2.2.2.1 0 39).bind (fun y4 => some (.go (!y4)))
  else some (.go false)))))
  else (bif (a0.1 != 2) then
  (bif (decide ((a0.2.2.2.2.2.2.1.length : Int) > 0)) then
  some (.go true)
  else (bif (a0.1 != 1) then
  (bif (a0.2.2.2.1 != 0) then
  some (.go true)
  else (bif a0.2.2.2.2.2.1 then
  (F_spec_l01In a0.2.2.2.2.1 0 39).bind (fun y5 => some (.go (!y5)))
  else some (.go false)))
  else (bif a0.2.2.2.2.2.1 then
  (F_spec_l01In a0.2.2.2.2.1 0 39).bind (fun y6 => some (.go (!y6)))
  else some (.go false))))
  else (bif (a0.1 != 1) then
  (bif (a0.2.2.2.1 != 0) then
  some (.go true)
  else (bif a0.2.2.2.2.2.1 then
  (F_spec_l01In a0.2.2.2.2.1 0 39).bind (fun y7 => some (.go (!y7)))
  else some (.go false)))
  else (bif a0.2.2.2.2.2.1 then
  (F_spec_l01In a0.2.2.2.2.1 0 39).bind (fun y8 => some (.go (!y8)))
  else some (.go false))))))
  (fun s => J_spec_NodeOkx0 a0 s)) (F_spec_NodeOk a0) := callL_le (tt := tt) (FT := FT) (SP := SP) (j := 26) rfl (by kernel_rfl)
@[simp] noncomputable def J_spec_WordOkx2 (v4 : Bool) (v5 : Int) (f0 : (Bool × Int) → Option (Ex Bool Bool)) (v12 : Bool) : Option (Ex Bool Bool) :=
  (bif v12 then
  some (.ret false)
  else f0 (v4, (IntKind.i64.wrap (v5 + 1))))
noncomputable def L_spec_WordOkx0 (a0 : ByteArray) (f0 : (Bool × Int) → Option (Ex Bool Bool)) (v4 : Bool) (v5 : Int) : Option (Ex Bool Bool) :=
  (bif (decide (v5 < (a0.size : Int))) then
  joinK ((bix a0 v5).bind (fun z6 => (bif (decide (z6 < 97)) then
  (bix a0 v5).bind (fun z7 => (bif (decide (z7 < 48)) then
  some (.go true)
  else (bix a0 v5).bind (fun z8 => some (.go (decide (z8 > 57))))))
  else (bix a0 v5).bind (fun z9 => (bif (decide (z9 > 122)) then
  (bix a0 v5).bind (fun z10 => (bif (decide (z10 < 48)) then
  some (.go true)
  else (bix a0 v5).bind (fun z11 => some (.go (decide (z11 > 57))))))
  else some (.go false))))))
  (fun s => J_spec_WordOkx2 v4 v5 f0 s)
  else some (.go v4))
@[simp] noncomputable def J_spec_WordOkx1 (v13 : Bool) : Option Bool :=
  some true
@[simp] noncomputable def J_spec_WordOkx0 (a0 : ByteArray) (v3 : Bool) : Option Bool :=
  (bif v3 then
  some false
  else joinK (loopF (fun f s => L_spec_WordOkx0 a0 f s.1 s.2) (false, 0))
  (fun s => J_spec_WordOkx1 s))
theorem U_spec_WordOk (a0 : ByteArray) : Le (joinK ((F_spec_l01In (a0.size : Int) 1 12).bind (fun y1 => (bif (!y1) then
  some (.go true)
  else (bix a0 0).bind (fun z2 => some (.go (decide (z2 < 97)))))))
  (fun s => J_spec_WordOkx0 a0 s)) (F_spec_WordOk a0) := callL_le (tt := tt) (FT := FT) (SP := SP) (j := 27) rfl (by kernel_rfl)
theorem U_spec_l02Col (a0 : Int) : Le ((F_spec_l01In a0 0 63).bind (fun y1 => some y1)) (F_spec_l02Col a0) := callL_le (tt := tt) (FT := FT) (SP := SP) (j := 28) rfl (by kernel_rfl)
theorem U_spec_l01Number (a0 : Int) : Le ((F_spec_l01In a0 (-1000000) 1000000).bind (fun y1 => some y1)) (F_spec_l01Number a0) := callL_le (tt := tt) (FT := FT) (SP := SP) (j := 29) rfl (by kernel_rfl)
@[simp] noncomputable def J_spec_l02Endx2 (v6 : Int) (f0 : (Int × Int × Int × Int × Int) → Option (Ex (Int × Int) (Int × Int × Int × Int))) (v10 : Int) (v11 : Int) (v12 : Int) (v13 : Int) : Option (Ex (Int × Int) (Int × Int × Int × Int)) :=
  f0 (v10, v11, v12, v13, (IntKind.i64.wrap (v6 + 1)))
noncomputable def L_spec_l02Endx0 (a0 : List SNode) (a1 : Int) (a2 : Int) (f0 : (Int × Int × Int × Int × Int) → Option (Ex (Int × Int) (Int × Int × Int × Int))) (v2 : Int) (v3 : Int) (v4 : Int) (v5 : Int) (v6 : Int) : Option (Ex (Int × Int) (Int × Int × Int × Int)) :=
  (ix a0 a1).bind (fun z7 => (F_spec_ArityOf z7.1).bind (fun y8 => (bif (decide (v6 < y8)) then
  joinK ((F_spec_l02End a0 v4 (IntKind.i64.wrap (a2 - 1))).bind (fun y9 => (bif (decide (y9.1 < 0)) then
  some (.ret (.ret ((-1), 0)))
  else (bif (decide (y9.2 > v5)) then
  some (.go (v2, v3, y9.1, y9.2))
  else some (.go (v2, v3, y9.1, v5))))))
  (fun s => J_spec_l02Endx2 v6 f0 s.1 s.2.1 s.2.2.1 s.2.2.2)
  else some (.go (v2, v3, v4, v5)))))
@[simp] noncomputable def J_spec_l02Endx1 (v14 : Int) (v15 : Int) (v16 : Int) (v17 : Int) : Option (Int × Int) :=
  some (v16, (IntKind.i64.wrap (v17 + 1)))
@[simp] noncomputable def J_spec_l02Endx0 (a0 : List SNode) (a1 : Int) (a2 : Int) (v1 : Bool) : Option (Int × Int) :=
  (bif v1 then
  some ((-1), 0)
  else joinK (loopF (fun f s => L_spec_l02Endx0 a0 a1 a2 f s.1 s.2.1 s.2.2.1 s.2.2.2.1 s.2.2.2.2) (0, 0, (IntKind.i64.wrap (a1 + 1)), 0, 0))
  (fun s => J_spec_l02Endx1 s.1 s.2.1 s.2.2.1 s.2.2.2))
theorem U_spec_l02End (a0 : List SNode) (a1 : Int) (a2 : Int) : Le (joinK ((bif (decide (a1 ≥ (a0.length : Int))) then
  some (.go true)
  else some (.go (a2 == 0))))
  (fun s => J_spec_l02Endx0 a0 a1 a2 s)) (F_spec_l02End a0 a1 a2) := callL_le (tt := tt) (FT := FT) (SP := SP) (j := 30) rfl (by kernel_rfl)
@[simp] noncomputable def J_spec_ArityOfx1 (v2 : Bool) : Option Int :=
  (bif v2 then
  some 1
  else some (-1))
@[simp] noncomputable def J_spec_ArityOfx0 (a0 : Int) (v1 : Bool) : Option Int :=
  (bif v1 then
  some 2
  else joinK ((bif (a0 == 1) then
  some (.go true)
  else (bif (a0 == 2) then
  some (.go true)
  else (bif (a0 == 5) then
  some (.go true)
  else (bif (a0 == 6) then
  some (.go true)
  else some (.go (a0 == 7)))))))
  (fun s => J_spec_ArityOfx1 s))
theorem U_spec_ArityOf (a0 : Int) : Le ((bif (a0 == 0) then
  some 0
  else joinK ((bif (a0 == 3) then
  some (.go true)
  else some (.go (a0 == 4))))
  (fun s => J_spec_ArityOfx0 a0 s))) (F_spec_ArityOf a0) := callL_le (tt := tt) (FT := FT) (SP := SP) (j := 31) rfl (by kernel_rfl)
@[simp] noncomputable def J_spec_SlotsOfx3 (v3 : Int) (v4 : List Int) (v9 : Bool) : Option (Ex (Ex (Ex (List Int) (List Int)) (List Int)) (List Int)) :=
  (bif v9 then
  (apx v4 ([v3])).bind (fun z10 => some (.go z10))
  else some (.go v4))
@[simp] noncomputable def J_spec_SlotsOfx2 (v5 : Int) (f1 : ((List Int) × Int) → Option (Ex (Ex (List Int) (List Int)) (List Int))) (v11 : List Int) : Option (Ex (Ex (List Int) (List Int)) (List Int)) :=
  f1 (v11, (IntKind.i64.wrap (v5 + 1)))
noncomputable def L_spec_SlotsOfx1 (a0 : List SNode) (v3 : Int) (f1 : ((List Int) × Int) → Option (Ex (Ex (List Int) (List Int)) (List Int))) (v4 : List Int) (v5 : Int) : Option (Ex (Ex (List Int) (List Int)) (List Int)) :=
  (bif (decide (v5 < (a0.length : Int))) then
  joinK (joinK ((ix a0 v5).bind (fun z6 => (bif z6.2.2.2.2.2.1 then
  (ix a0 v5).bind (fun z7 => (bif (z7.2.2.2.2.1 == v3) then
  (F_spec_l01Has v4 v3).bind (fun y8 => some (.go (!y8)))
  else some (.go false)))
  else some (.go false))))
  (fun s => J_spec_SlotsOfx3 v3 v4 s))
  (fun s => J_spec_SlotsOfx2 v5 f1 s)
  else some (.go v4))
@[simp] noncomputable def J_spec_SlotsOfx1 (v3 : Int) (f0 : ((List Int) × Int) → Option (Ex (List Int) (List Int))) (v12 : List Int) : Option (Ex (List Int) (List Int)) :=
  f0 (v12, (IntKind.i64.wrap (v3 + 1)))
noncomputable def L_spec_SlotsOfx0 (a0 : List SNode) (f0 : ((List Int) × Int) → Option (Ex (List Int) (List Int))) (v2 : List Int) (v3 : Int) : Option (Ex (List Int) (List Int)) :=
  (bif (decide (v3 < 40)) then
  joinK (loopF (fun f s => L_spec_SlotsOfx1 a0 v3 f s.1 s.2) (v2, 0))
  (fun s => J_spec_SlotsOfx1 v3 f0 s)
  else some (.go v2))
@[simp] noncomputable def J_spec_SlotsOfx0 (v13 : List Int) : Option (List Int) :=
  some v13
theorem U_spec_SlotsOf (a0 : List SNode) : Le ((F_spec_PlanOk a0).bind (fun y1 => (bif (!y1) then
  some ([])
  else joinK (loopF (fun f s => L_spec_SlotsOfx0 a0 f s.1 s.2) ([], 0))
  (fun s => J_spec_SlotsOfx0 s)))) (F_spec_SlotsOf a0) := callL_le (tt := tt) (FT := FT) (SP := SP) (j := 32) rfl (by kernel_rfl)
noncomputable def L_spec_l01Hasx0 (a0 : List Int) (a1 : Int) (f0 : (Bool × Int) → Option (Ex Bool Bool)) (v1 : Bool) (v2 : Int) : Option (Ex Bool Bool) :=
  (bif (decide (v2 < (a0.length : Int))) then
  (ix a0 v2).bind (fun z3 => (bif (z3 == a1) then
  some (.ret true)
  else f0 (v1, (IntKind.i64.wrap (v2 + 1)))))
  else some (.go v1))
@[simp] noncomputable def J_spec_l01Hasx0 (v4 : Bool) : Option Bool :=
  some false
theorem U_spec_l01Has (a0 : List Int) (a1 : Int) : Le (joinK (loopF (fun f s => L_spec_l01Hasx0 a0 a1 f s.1 s.2) (false, 0))
  (fun s => J_spec_l01Hasx0 s)) (F_spec_l01Has a0 a1) := callL_le (tt := tt) (FT := FT) (SP := SP) (j := 33) rfl (by kernel_rfl)
@[simp] noncomputable def J_spec_l07Literalx0 (v1 : Bool) : Option Bool :=
  some v1
theorem U_spec_l07Literal (a0 : SNode) : Le (joinK ((bif (a0.1 == 1) then
  (bif (a0.2.2.2.1 != 3) then
  some (.go true)
  else some (.go (a0.1 == 6)))
  else some (.go (a0.1 == 6))))
  (fun s => J_spec_l07Literalx0 s)) (F_spec_l07Literal a0) := callL_le (tt := tt) (FT := FT) (SP := SP) (j := 34) rfl (by kernel_rfl)
@[simp] noncomputable def J_impl_OnlyDirectx2 (y4 : List SNode) (z5 : List SStep) (y6 : ((List SNode) × (List Int) × Bool)) (v7 : Bool) : Option (Ex (Ex (List SOp) (List SOp)) ((List SNode) × (List SStep))) :=
  (bif v7 then
  some (.go (y6.1, []))
  else some (.go (y4, z5)))
@[simp] noncomputable def J_impl_OnlyDirectx1 (v1 : List SOp) (v2 : Int) (z3 : SOp) (f0 : ((List SOp) × Int) → Option (Ex (List SOp) (List SOp))) (v8 : List SNode) (v9 : List SStep) : Option (Ex (List SOp) (List SOp)) :=
  (F_impl_own z3.2.1).bind (fun y10 => (apx v1 ([(z3.1, (y10, (v8, (v9, ()))))])).bind (fun z11 => f0 (z11, (IntKind.i64.wrap (v2 + 1)))))
noncomputable def L_impl_OnlyDirectx0 (a1 : List SOp) (f0 : ((List SOp) × Int) → Option (Ex (List SOp) (List SOp))) (v1 : List SOp) (v2 : Int) : Option (Ex (List SOp) (List SOp)) :=
  (bif (decide (v2 < (a1.length : Int))) then
  (ix a1 v2).bind (fun z3 => (F_impl_own z3.2.2.1).bind (fun y4 => (apx ([]) z3.2.2.2.1).bind (fun z5 => joinK ((F_impl_Lift z3.2.1).bind (fun y6 => joinK ((bif y6.2.2 then
  some (.go (z3.1 == 0))
  else some (.go false)))
  (fun s => J_impl_OnlyDirectx2 y4 z5 y6 s)))
  (fun s => J_impl_OnlyDirectx1 v1 v2 z3 f0 s.1 s.2))))
  else some (.go v1))
@[simp] noncomputable def J_impl_OnlyDirectx0 (v12 : List SOp) : Option (List SOp) :=
  some v12
theorem U_impl_OnlyDirect (a0 : List STable) (a1 : List SOp) : Le (joinK (loopF (fun f s => L_impl_OnlyDirectx0 a1 f s.1 s.2) ([], 0))
  (fun s => J_impl_OnlyDirectx0 s)) (F_impl_OnlyDirect a0 a1) := callL_le (tt := tt) (FT := FT) (SP := SP) (j := 35) rfl (by kernel_rfl)
noncomputable def L_impl_ownx0 (a0 : List SNode) (f0 : ((List SNode) × Int) → Option (Ex (List SNode) (List SNode))) (v1 : List SNode) (v2 : Int) : Option (Ex (List SNode) (List SNode)) :=
  (bif (decide (v2 < (a0.length : Int))) then
  (ix a0 v2).bind (fun z3 => (F_slices_Clone_Lint z3.2.2.2.2.2.2.1).bind (fun y4 => (apx v1 ([(z3.1, (z3.2.1, (z3.2.2.1, (z3.2.2.2.1, (z3.2.2.2.2.1, (z3.2.2.2.2.2.1, (y4, ())))))))])).bind (fun z5 => f0 (z5, (IntKind.i64.wrap (v2 + 1))))))
  else some (.go v1))
@[simp] noncomputable def J_impl_ownx0 (v6 : List SNode) : Option (List SNode) :=
  some v6
theorem U_impl_own (a0 : List SNode) : Le (joinK (loopF (fun f s => L_impl_ownx0 a0 f s.1 s.2) ([], 0))
  (fun s => J_impl_ownx0 s)) (F_impl_own a0) := callL_le (tt := tt) (FT := FT) (SP := SP) (j := 36) rfl (by kernel_rfl)
theorem U_slices_Clone_Lint (a0 : List Int) : Le ((nilx a0.isEmpty
  (some ([]))
  ((apx ([]) a0).bind (fun z1 => some z1)))) (F_slices_Clone_Lint a0) := callL_le (tt := tt) (FT := FT) (SP := SP) (j := 37) rfl (by kernel_rfl)
@[simp] noncomputable def J_impl_Liftx1 (v5 : Int) (f0 : ((List SNode) × (List Int) × Int) → Option (Ex ((List SNode) × (List Int) × Bool) ((List SNode) × (List Int)))) (v13 : List SNode) (v14 : List Int) : Option (Ex ((List SNode) × (List Int) × Bool) ((List SNode) × (List Int))) :=
  f0 (v13, v14, (IntKind.i64.wrap (v5 + 1)))
noncomputable def L_impl_Liftx0 (y2 : List SNode) (f0 : ((List SNode) × (List Int) × Int) → Option (Ex ((List SNode) × (List Int) × Bool) ((List SNode) × (List Int)))) (v3 : List SNode) (v4 : List Int) (v5 : Int) : Option (Ex ((List SNode) × (List Int) × Bool) ((List SNode) × (List Int))) :=
  (bif (decide (v5 < (y2.length : Int))) then
  joinK ((ix v3 v5).bind (fun z6 => (ix v3 v5).bind (fun z7 => (F_impl_Node_isLiteral z7).bind (fun y8 => (bif y8 then
  (ix v3 v5).bind (fun z9 => (apx v4 ([z9.2.2.2.2.1])).bind (fun z10 => (ix v3 v5).bind (fun z11 => (ix (v3.set (v5).toNat (z11.1, (z11.2.1, (z11.2.2.1, (z11.2.2.2.1, ((IntKind.i64.wrap ((z10.length : Int) - 1)), z11.2.2.2.2.2)))))) v5).bind (fun z12 => some (.go (((v3.set (v5).toNat (z11.1, (z11.2.1, (z11.2.2.1, (z11.2.2.2.1, ((IntKind.i64.wrap ((z10.length : Int) - 1)), z11.2.2.2.2.2)))))).set (v5).toNat (z12.1, (z12.2.1, (z12.2.2.1, (z12.2.2.2.1, (z12.2.2.2.2.1, (true, z12.2.2.2.2.2.2))))))), z10))))))
  else some (.go (v3, v4)))))))
  (fun s => J_impl_Liftx1 v5 f0 s.1 s.2)
  else some (.go (v3, v4)))
@[simp] noncomputable def J_impl_Liftx0 (v15 : List SNode) (v16 : List Int) : Option ((List SNode) × (List Int) × Bool) :=
  some (v15, v16, true)
theorem U_impl_Lift (a0 : List SNode) : Le ((F_impl_Closed a0).bind (fun y1 => (bif (!y1) then
  some ([], [], false)
  else (F_impl_own a0).bind (fun y2 => joinK (loopF (fun f s => L_impl_Liftx0 y2 f s.1 s.2.1 s.2.2) (y2, [], 0))
  (fun s => J_impl_Liftx0 s.1 s.2))))) (F_impl_Lift a0) := callL_le (tt := tt) (FT := FT) (SP := SP) (j := 38) rfl (by kernel_rfl)
@[simp] noncomputable def J_impl_Closedx0 (v3 : Bool) : Option Bool :=
  some v3
theorem U_impl_Closed (a0 : List SNode) : Le (joinK ((F_impl_PlanOk a0).bind (fun y1 => (bif y1 then
  (F_impl_hasSlot a0).bind (fun y2 => some (.go (!y2)))
  else some (.go false))))
  (fun s => J_impl_Closedx0 s)) (F_impl_Closed a0) := callL_le (tt := tt) (FT := FT) (SP := SP) (j := 39) rfl (by kernel_rfl)
@[simp] noncomputable def J_impl_PlanOkx0 (a0 : List SNode) (v3 : Bool) : Option Bool :=
  (bif v3 then
  some false
  else (F_impl_end a0 0 1).bind (fun y4 => some (y4 == (a0.length : Int))))
theorem U_impl_PlanOk (a0 : List SNode) : Le (joinK ((F_impl_in (a0.length : Int) 1 40).bind (fun y1 => (bif (!y1) then
  some (.go true)
  else (F_slices_ContainsFunc_LimplNode_impl_PlanOk_1 a0).bind (fun y2 => some (.go y2)))))
  (fun s => J_impl_PlanOkx0 a0 s)) (F_impl_PlanOk a0) := callL_le (tt := tt) (FT := FT) (SP := SP) (j := 40) rfl (by kernel_rfl)
@[simp] noncomputable def J_impl_inx0 (v1 : Bool) : Option Bool :=
  some v1
theorem U_impl_in (a0 : Int) (a1 : Int) (a2 : Int) : Le (joinK ((bif (decide (a0 ≥ a1)) then
  some (.go (decide (a0 ≤ a2)))
  else some (.go false)))
  (fun s => J_impl_inx0 s)) (F_impl_in a0 a1 a2) := callL_le (tt := tt) (FT := FT) (SP := SP) (j := 41) rfl (by kernel_rfl)
theorem U_slices_ContainsFunc_LimplNode_impl_PlanOk_1 (a0 : List SNode) : Le ((F_slices_IndexFunc_LimplNode_impl_PlanOk_1 a0).bind (fun y1 => some (decide (y1 ≥ 0)))) (F_slices_ContainsFunc_LimplNode_impl_PlanOk_1 a0) := callL_le (tt := tt) (FT := FT) (SP := SP) (j := 42) rfl (by kernel_rfl)
noncomputable def L_slices_IndexFunc_LimplNode_impl_PlanOk_1x0 (a0 : List SNode) (f0 : (Int × Int) → Option (Ex Int Int)) (v1 : Int) (v2 : Int) : Option (Ex Int Int) :=
  (bif (decide (v2 < (a0.length : Int))) then
  (ix a0 v2).bind (fun z3 => (F_impl_PlanOk_1 z3).bind (fun y4 => (bif y4 then
  some (.ret v2)
  else f0 (v1, (IntKind.i64.wrap (v2 + 1))))))
  else some (.go v1))
@[simp] noncomputable def J_slices_IndexFunc_LimplNode_impl_PlanOk_1x0 (v5 : Int) : Option Int :=
  some (-1)
theorem U_slices_IndexFunc_LimplNode_impl_PlanOk_1 (a0 : List SNode) : Le (joinK (loopF (fun f s => L_slices_IndexFunc_LimplNode_impl_PlanOk_1x0 a0 f s.1 s.2) (0, 0))
  (fun s => J_slices_IndexFunc_LimplNode_impl_PlanOk_1x0 s)) (F_slices_IndexFunc_LimplNode_impl_PlanOk_1 a0) := callL_le (tt := tt) (FT := FT) (SP := SP) (j := 43) rfl (by kernel_rfl)
theorem U_impl_PlanOk_1 (a0 : SNode) : Le ((F_impl_NodeOk (a0.1, (a0.2.1, (a0.2.2.1, (a0.2.2.2.1, (a0.2.2.2.2.1, (a0.2.2.2.2.2.1, (a0.2.2.2.2.2.2.1, ())))))))).bind (fun y1 => some (!y1))) (F_impl_PlanOk_1 a0) := callL_le (tt := tt) (FT := FT) (SP := SP) (j := 44) rfl (by kernel_rfl)
@[simp] noncomputable def J_impl_NodeOkx2 (a0 : SNode) (v7 : Bool) : Option (Ex Bool (Int × ByteArray × Int × Int × Int × Bool × (List Int) × Bool)) :=
  some (.go (0, a0.2.1, 0, 0, 0, false, a0.2.2.2.2.2.2.1, v7))
@[simp] noncomputable def J_impl_NodeOkx1 (a0 : SNode) (v4 : Bool) : Option (Ex Bool (Int × ByteArray × Int × Int × Int × Bool × (List Int) × Bool)) :=
  joinK ((bif (a0.2.2.2.1 == 3) then
  (bif v4 then
  (bif (a0.2.2.2.2.1 == 0) then
  some (.go (!a0.2.2.2.2.2.1))
  else some (.go false))
  else some (.go false))
  else (bif a0.2.2.2.2.2.1 then
  (bif v4 then
  (F_impl_isSlot a0.2.2.2.2.1).bind (fun y5 => some (.go y5))
  else some (.go false))
  else (bif v4 then
  (F_impl_isNum a0.2.2.2.2.1).bind (fun y6 => some (.go y6))
  else some (.go false)))))
  (fun s => J_impl_NodeOkx2 a0 s)
@[simp] noncomputable def J_impl_NodeOkx3 (a0 : SNode) (v10 : Bool) : Option (Ex Bool (Int × ByteArray × Int × Int × Int × Bool × (List Int) × Bool)) :=
  some (.go (0, a0.2.1, a0.2.2.1, a0.2.2.2.1, a0.2.2.2.2.1, a0.2.2.2.2.2.1, [], v10))
@[simp] noncomputable def J_impl_NodeOkx4 (a0 : SNode) (v13 : Bool) : Option (Ex Bool (Int × ByteArray × Int × Int × Int × Bool × (List Int) × Bool)) :=
  some (.go (0, a0.2.1, 0, a0.2.2.2.1, 0, a0.2.2.2.2.2.1, a0.2.2.2.2.2.2.1, v13))
@[simp] noncomputable def J_impl_NodeOkx5 (a0 : SNode) (v17 : Bool) : Option (Ex Bool (Int × ByteArray × Int × Int × Int × Bool × (List Int) × Bool)) :=
  some (.go (0, a0.2.1, a0.2.2.1, a0.2.2.2.1, 0, false, a0.2.2.2.2.2.2.1, v17))
@[simp] noncomputable def J_impl_NodeOkx6 (a0 : SNode) (v18 : Bool) : Option (Ex Bool (Int × ByteArray × Int × Int × Int × Bool × (List Int) × Bool)) :=
  (bif v18 then
  some (.go (0, a0.2.1, a0.2.2.1, a0.2.2.2.1, a0.2.2.2.2.1, a0.2.2.2.2.2.1, a0.2.2.2.2.2.2.1, true))
  else some (.go (0, a0.2.1, a0.2.2.1, a0.2.2.2.1, a0.2.2.2.2.1, a0.2.2.2.2.2.1, a0.2.2.2.2.2.2.1, false)))
@[simp] noncomputable def J_impl_NodeOkx7 (v28 : Bool) : Option Bool :=
  some v28
@[simp] noncomputable def J_impl_NodeOkx0 (v19 : Int) (v20 : ByteArray) (v21 : Int) (v22 : Int) (v23 : Int) (v24 : Bool) (v25 : List Int) (v26 : Bool) : Option Bool :=
  joinK ((bif v26 then
  (F_impl_sameNode (v19, (v20, (v21, (v22, (v23, (v24, (v25, ()))))))) (0, (ByteArray.empty, (0, (0, (0, (false, ([], ())))))))).bind (fun y27 => some (.go y27))
  else some (.go false)))
  (fun s => J_impl_NodeOkx7 s)
theorem U_impl_NodeOk (a0 : SNode) : Le (joinK ((bif (a0.1 == 0) then
  (F_impl_WordOk a0.2.1).bind (fun y1 => some (.go (0, ByteArray.empty, a0.2.2.1, a0.2.2.2.1, a0.2.2.2.2.1, a0.2.2.2.2.2.1, a0.2.2.2.2.2.2.1, y1)))
  else (bif (a0.1 == 1) then
  joinK ((F_impl_isCol a0.2.2.1).bind (fun y2 => (bif y2 then
  (F_impl_in a0.2.2.2.1 0 3).bind (fun y3 => some (.go y3))
  else some (.go false))))
  (fun s => J_impl_NodeOkx1 a0 s)
  else (bif (a0.1 == 2) then
  joinK ((F_impl_in (a0.2.2.2.2.2.2.1.length : Int) 1 6).bind (fun y8 => (bif y8 then
  (F_slices_ContainsFunc_Lint_impl_NodeOk_1 a0.2.2.2.2.2.2.1).bind (fun y9 => some (.go (!y9)))
  else some (.go false))))
  (fun s => J_impl_NodeOkx3 a0 s)
  else (bif (a0.1 == 3) then
  joinK ((F_impl_isCol a0.2.2.1).bind (fun y11 => (bif y11 then
  (F_impl_isCol a0.2.2.2.2.1).bind (fun y12 => some (.go y12))
  else some (.go false))))
  (fun s => J_impl_NodeOkx4 a0 s)
  else (bif (a0.1 == 5) then
  (F_impl_isCol a0.2.2.1).bind (fun y14 => some (.go (0, a0.2.1, 0, a0.2.2.2.1, a0.2.2.2.2.1, a0.2.2.2.2.2.1, a0.2.2.2.2.2.2.1, y14)))
  else (bif (a0.1 == 6) then
  joinK ((F_impl_in a0.2.2.2.2.1 0 1000000).bind (fun y15 => (bif y15 then
  (bif (!a0.2.2.2.2.2.1) then
  some (.go true)
  else (F_impl_isSlot a0.2.2.2.2.1).bind (fun y16 => some (.go y16)))
  else some (.go false))))
  (fun s => J_impl_NodeOkx5 a0 s)
  else joinK ((bif (a0.1 == 4) then
  some (.go true)
  else some (.go (a0.1 == 7))))
  (fun s => J_impl_NodeOkx6 a0 s))))))))
  (fun s => J_impl_NodeOkx0 s.1 s.2.1 s.2.2.1 s.2.2.2.1 s.2.2.2.2.1 s.2.2.2.2.2.1 s.2.2.2.2.2.2.1 s.2.2.2.2.2.2.2)) (F_impl_NodeOk a0) := callL_le (tt := tt) (FT := FT) (SP := SP) (j := 45) rfl (by kernel_rfl)
@[simp] noncomputable def J_impl_WordOkx2 (v1 : Bool) (v2 : Int) (f0 : (Bool × Int) → Option (Ex Bool Bool)) (v5 : Bool) : Option (Ex Bool Bool) :=
  (bif v5 then
  some (.ret false)
  else f0 (v1, (IntKind.i64.wrap (v2 + 1))))
@[simp] noncomputable def J_impl_WordOkx1 (v1 : Bool) (v2 : Int) (z3 : Int) (f0 : (Bool × Int) → Option (Ex Bool Bool)) (v4 : Bool) : Option (Ex Bool Bool) :=
  joinK ((bif (!v4) then
  (bif (v2 == 0) then
  some (.go true)
  else (bif (decide (z3 < 48)) then
  some (.go true)
  else some (.go (decide (z3 > 57)))))
  else some (.go false)))
  (fun s => J_impl_WordOkx2 v1 v2 f0 s)
noncomputable def L_impl_WordOkx0 (a0 : ByteArray) (f0 : (Bool × Int) → Option (Ex Bool Bool)) (v1 : Bool) (v2 : Int) : Option (Ex Bool Bool) :=
  (bif (decide (v2 < (a0.size : Int))) then
  (bix a0 v2).bind (fun z3 => joinK ((bif (decide (z3 ≥ 97)) then
  some (.go (decide (z3 ≤ 122)))
  else some (.go false)))
  (fun s => J_impl_WordOkx1 v1 v2 z3 f0 s))
  else some (.go v1))
@[simp] noncomputable def J_impl_WordOkx0 (a0 : ByteArray) (v6 : Bool) : Option Bool :=
  (F_impl_in (a0.size : Int) 1 12).bind (fun y7 => some y7)
theorem U_impl_WordOk (a0 : ByteArray) : Le (joinK (loopF (fun f s => L_impl_WordOkx0 a0 f s.1 s.2) (false, 0))
  (fun s => J_impl_WordOkx0 a0 s)) (F_impl_WordOk a0) := callL_le (tt := tt) (FT := FT) (SP := SP) (j := 46) rfl (by kernel_rfl)
theorem U_impl_isCol (a0 : Int) : Le ((F_impl_in a0 0 63).bind (fun y1 => some y1)) (F_impl_isCol a0) := callL_le (tt := tt) (FT := FT) (SP := SP) (j := 47) rfl (by kernel_rfl)
theorem U_impl_isSlot (a0 : Int) : Le ((F_impl_in a0 0 39).bind (fun y1 => some y1)) (F_impl_isSlot a0) := callL_le (tt := tt) (FT := FT) (SP := SP) (j := 48) rfl (by kernel_rfl)
theorem U_impl_isNum (a0 : Int) : Le ((F_impl_in a0 (-1000000) 1000000).bind (fun y1 => some y1)) (F_impl_isNum a0) := callL_le (tt := tt) (FT := FT) (SP := SP) (j := 49) rfl (by kernel_rfl)
theorem U_slices_ContainsFunc_Lint_impl_NodeOk_1 (a0 : List Int) : Le ((F_slices_IndexFunc_Lint_impl_NodeOk_1 a0).bind (fun y1 => some (decide (y1 ≥ 0)))) (F_slices_ContainsFunc_Lint_impl_NodeOk_1 a0) := callL_le (tt := tt) (FT := FT) (SP := SP) (j := 50) rfl (by kernel_rfl)
noncomputable def L_slices_IndexFunc_Lint_impl_NodeOk_1x0 (a0 : List Int) (f0 : (Int × Int) → Option (Ex Int Int)) (v1 : Int) (v2 : Int) : Option (Ex Int Int) :=
  (bif (decide (v2 < (a0.length : Int))) then
  (ix a0 v2).bind (fun z3 => (F_impl_NodeOk_1 z3).bind (fun y4 => (bif y4 then
  some (.ret v2)
  else f0 (v1, (IntKind.i64.wrap (v2 + 1))))))
  else some (.go v1))
@[simp] noncomputable def J_slices_IndexFunc_Lint_impl_NodeOk_1x0 (v5 : Int) : Option Int :=
  some (-1)
theorem U_slices_IndexFunc_Lint_impl_NodeOk_1 (a0 : List Int) : Le (joinK (loopF (fun f s => L_slices_IndexFunc_Lint_impl_NodeOk_1x0 a0 f s.1 s.2) (0, 0))
  (fun s => J_slices_IndexFunc_Lint_impl_NodeOk_1x0 s)) (F_slices_IndexFunc_Lint_impl_NodeOk_1 a0) := callL_le (tt := tt) (FT := FT) (SP := SP) (j := 51) rfl (by kernel_rfl)
theorem U_impl_NodeOk_1 (a0 : Int) : Le ((F_impl_isCol a0).bind (fun y1 => some (!y1))) (F_impl_NodeOk_1 a0) := callL_le (tt := tt) (FT := FT) (SP := SP) (j := 52) rfl (by kernel_rfl)
@[simp] noncomputable def J_impl_sameNodex0 (v2 : Bool) : Option Bool :=
  some v2
theorem U_impl_sameNode (a0 : SNode) (a1 : SNode) : Le (joinK ((bif (a0.1 == a1.1) then
  (bif (a0.2.1.toList == a1.2.1.toList) then
  (bif (a0.2.2.1 == a1.2.2.1) then
  (bif (a0.2.2.2.1 == a1.2.2.2.1) then
  (bif (a0.2.2.2.2.1 == a1.2.2.2.2.1) then
  (bif (a0.2.2.2.2.2.1 == a1.2.2.2.2.2.1) then
  (F_slices_Equal_Lint a0.2.2.2.2.2.2.1 a1.2.2.2.2.2.2.1).bind (fun y1 => some (.go y1))
  else some (.go false))
  else some (.go false))
  else some (.go false))
  else some (.go false))
  else some (.go false))
  else some (.go false)))
  (fun s => J_impl_sameNodex0 s)) (F_impl_sameNode a0 a1) := callL_le (tt := tt) (FT := FT) (SP := SP) (j := 53) rfl (by kernel_rfl)
noncomputable def L_slices_Equal_Lintx0 (a0 : List Int) (a1 : List Int) (f0 : (Bool × Int) → Option (Ex Bool Bool)) (v1 : Bool) (v2 : Int) : Option (Ex Bool Bool) :=
  (bif (decide (v2 < (a0.length : Int))) then
  (ix a0 v2).bind (fun z3 => (ix a1 v2).bind (fun z4 => (bif (z3 != z4) then
  some (.ret false)
  else f0 (v1, (IntKind.i64.wrap (v2 + 1))))))
  else some (.go v1))
@[simp] noncomputable def J_slices_Equal_Lintx0 (v5 : Bool) : Option Bool :=
  some true
theorem U_slices_Equal_Lint (a0 : List Int) (a1 : List Int) : Le ((bif ((a0.length : Int) != (a1.length : Int)) then
  some false
  else joinK (loopF (fun f s => L_slices_Equal_Lintx0 a0 a1 f s.1 s.2) (false, 0))
  (fun s => J_slices_Equal_Lintx0 s))) (F_slices_Equal_Lint a0 a1) := callL_le (tt := tt) (FT := FT) (SP := SP) (j := 54) rfl (by kernel_rfl)
noncomputable def L_impl_endx0 (a0 : List SNode) (a2 : Int) (y3 : Int) (f0 : (Int × Int × Int) → Option (Ex Int (Int × Int))) (v4 : Int) (v5 : Int) (v6 : Int) : Option (Ex Int (Int × Int)) :=
  (bif (decide (v6 < y3)) then
  (F_impl_end a0 v5 (IntKind.i64.wrap (a2 + 1))).bind (fun y7 => (bif (decide (y7 < 0)) then
  some (.ret (-1))
  else f0 (v4, y7, (IntKind.i64.wrap (v6 + 1)))))
  else some (.go (v4, v5)))
@[simp] noncomputable def J_impl_endx1 (v8 : Int) (v9 : Int) : Option Int :=
  some v9
@[simp] noncomputable def J_impl_endx0 (a0 : List SNode) (a1 : Int) (a2 : Int) (v1 : Bool) : Option Int :=
  (bif v1 then
  some (-1)
  else joinK ((ix a0 a1).bind (fun z2 => (F_impl_ArityOf z2.1).bind (fun y3 => loopF (fun f s => L_impl_endx0 a0 a2 y3 f s.1 s.2.1 s.2.2) (0, (IntKind.i64.wrap (a1 + 1)), 0))))
  (fun s => J_impl_endx1 s.1 s.2))
theorem U_impl_end (a0 : List SNode) (a1 : Int) (a2 : Int) : Le (joinK ((bif (decide (a1 ≥ (a0.length : Int))) then
  some (.go true)
  else some (.go (decide (a2 > 10)))))
  (fun s => J_impl_endx0 a0 a1 a2 s)) (F_impl_end a0 a1 a2) := callL_le (tt := tt) (FT := FT) (SP := SP) (j := 55) rfl (by kernel_rfl)
@[simp] noncomputable def J_impl_ArityOfx1 (v2 : Bool) : Option Int :=
  (bif v2 then
  some 1
  else some (-1))
@[simp] noncomputable def J_impl_ArityOfx0 (a0 : Int) (v1 : Bool) : Option Int :=
  (bif v1 then
  some 2
  else joinK ((bif (a0 == 1) then
  some (.go true)
  else (bif (a0 == 2) then
  some (.go true)
  else (bif (a0 == 5) then
  some (.go true)
  else (bif (a0 == 6) then
  some (.go true)
  else some (.go (a0 == 7)))))))
  (fun s => J_impl_ArityOfx1 s))
theorem U_impl_ArityOf (a0 : Int) : Le ((bif (a0 == 0) then
  some 0
  else joinK ((bif (a0 == 3) then
  some (.go true)
  else some (.go (a0 == 4))))
  (fun s => J_impl_ArityOfx0 a0 s))) (F_impl_ArityOf a0) := callL_le (tt := tt) (FT := FT) (SP := SP) (j := 56) rfl (by kernel_rfl)
theorem U_impl_hasSlot (a0 : List SNode) : Le ((F_slices_ContainsFunc_LimplNode_impl_hasSlot_1 a0).bind (fun y1 => some y1)) (F_impl_hasSlot a0) := callL_le (tt := tt) (FT := FT) (SP := SP) (j := 57) rfl (by kernel_rfl)
theorem U_slices_ContainsFunc_LimplNode_impl_hasSlot_1 (a0 : List SNode) : Le ((F_slices_IndexFunc_LimplNode_impl_hasSlot_1 a0).bind (fun y1 => some (decide (y1 ≥ 0)))) (F_slices_ContainsFunc_LimplNode_impl_hasSlot_1 a0) := callL_le (tt := tt) (FT := FT) (SP := SP) (j := 58) rfl (by kernel_rfl)
noncomputable def L_slices_IndexFunc_LimplNode_impl_hasSlot_1x0 (a0 : List SNode) (f0 : (Int × Int) → Option (Ex Int Int)) (v1 : Int) (v2 : Int) : Option (Ex Int Int) :=
  (bif (decide (v2 < (a0.length : Int))) then
  (ix a0 v2).bind (fun z3 => (F_impl_hasSlot_1 z3).bind (fun y4 => (bif y4 then
  some (.ret v2)
  else f0 (v1, (IntKind.i64.wrap (v2 + 1))))))
  else some (.go v1))
@[simp] noncomputable def J_slices_IndexFunc_LimplNode_impl_hasSlot_1x0 (v5 : Int) : Option Int :=
  some (-1)
theorem U_slices_IndexFunc_LimplNode_impl_hasSlot_1 (a0 : List SNode) : Le (joinK (loopF (fun f s => L_slices_IndexFunc_LimplNode_impl_hasSlot_1x0 a0 f s.1 s.2) (0, 0))
  (fun s => J_slices_IndexFunc_LimplNode_impl_hasSlot_1x0 s)) (F_slices_IndexFunc_LimplNode_impl_hasSlot_1 a0) := callL_le (tt := tt) (FT := FT) (SP := SP) (j := 59) rfl (by kernel_rfl)
theorem U_impl_hasSlot_1 (a0 : SNode) : Le (some a0.2.2.2.2.2.1) (F_impl_hasSlot_1 a0) := callL_le (tt := tt) (FT := FT) (SP := SP) (j := 60) rfl (by kernel_rfl)
@[simp] noncomputable def J_impl_Node_isLiteralx0 (v1 : Bool) : Option Bool :=
  some v1
theorem U_impl_Node_isLiteral (a0 : SNode) : Le (joinK ((bif (a0.1 == 1) then
  (bif (a0.2.2.2.1 != 3) then
  some (.go true)
  else some (.go (a0.1 == 6)))
  else some (.go (a0.1 == 6))))
  (fun s => J_impl_Node_isLiteralx0 s)) (F_impl_Node_isLiteral a0) := callL_le (tt := tt) (FT := FT) (SP := SP) (j := 61) rfl (by kernel_rfl)
noncomputable def L_laws_eqOpSx0 (a0 : List SOp) (a1 : List SOp) (f0 : (Bool × Int) → Option (Ex Bool Bool)) (v1 : Bool) (v2 : Int) : Option (Ex Bool Bool) :=
  (bif (decide (v2 < (a0.length : Int))) then
  (ix a0 v2).bind (fun z3 => (ix a1 v2).bind (fun z4 => (F_laws_eqOp z3 z4).bind (fun y5 => (bif (!y5) then
  some (.ret false)
  else f0 (v1, (IntKind.i64.wrap (v2 + 1)))))))
  else some (.go v1))
@[simp] noncomputable def J_laws_eqOpSx0 (v6 : Bool) : Option Bool :=
  some true
theorem U_laws_eqOpS (a0 : List SOp) (a1 : List SOp) : Le ((bif ((a0.length : Int) != (a1.length : Int)) then
  some false
  else joinK (loopF (fun f s => L_laws_eqOpSx0 a0 a1 f s.1 s.2) (false, 0))
  (fun s => J_laws_eqOpSx0 s))) (F_laws_eqOpS a0 a1) := callL_le (tt := tt) (FT := FT) (SP := SP) (j := 62) rfl (by kernel_rfl)
theorem U_laws_eqOp (a0 : SOp) (a1 : SOp) : Le ((bif (a0.1 != a1.1) then
  some false
  else (F_laws_eqNodeS a0.2.1 a1.2.1).bind (fun y1 => (bif (!y1) then
  some false
  else (F_laws_eqNodeS a0.2.2.1 a1.2.2.1).bind (fun y2 => (bif (!y2) then
  some false
  else (F_laws_eqStepS a0.2.2.2.1 a1.2.2.2.1).bind (fun y3 => (bif (!y3) then
  some false
  else some true)))))))) (F_laws_eqOp a0 a1) := callL_le (tt := tt) (FT := FT) (SP := SP) (j := 63) rfl (by kernel_rfl)
noncomputable def L_laws_eqNodeSx0 (a0 : List SNode) (a1 : List SNode) (f0 : (Bool × Int) → Option (Ex Bool Bool)) (v1 : Bool) (v2 : Int) : Option (Ex Bool Bool) :=
  (bif (decide (v2 < (a0.length : Int))) then
  (ix a0 v2).bind (fun z3 => (ix a1 v2).bind (fun z4 => (F_laws_eqNode z3 z4).bind (fun y5 => (bif (!y5) then
  some (.ret false)
  else f0 (v1, (IntKind.i64.wrap (v2 + 1)))))))
  else some (.go v1))
@[simp] noncomputable def J_laws_eqNodeSx0 (v6 : Bool) : Option Bool :=
  some true
theorem U_laws_eqNodeS (a0 : List SNode) (a1 : List SNode) : Le ((bif ((a0.length : Int) != (a1.length : Int)) then
  some false
  else joinK (loopF (fun f s => L_laws_eqNodeSx0 a0 a1 f s.1 s.2) (false, 0))
  (fun s => J_laws_eqNodeSx0 s))) (F_laws_eqNodeS a0 a1) := callL_le (tt := tt) (FT := FT) (SP := SP) (j := 64) rfl (by kernel_rfl)
theorem U_laws_eqNode (a0 : SNode) (a1 : SNode) : Le ((bif (a0.1 != a1.1) then
  some false
  else (bif (!(a0.2.1.toList == a1.2.1.toList)) then
  some false
  else (bif (a0.2.2.1 != a1.2.2.1) then
  some false
  else (bif (a0.2.2.2.1 != a1.2.2.2.1) then
  some false
  else (bif (a0.2.2.2.2.1 != a1.2.2.2.2.1) then
  some false
  else (bif (a0.2.2.2.2.2.1 != a1.2.2.2.2.2.1) then
  some false
  else (F_laws_eqIntS a0.2.2.2.2.2.2.1 a1.2.2.2.2.2.2.1).bind (fun y1 => (bif (!y1) then
  some false
  else some true))))))))) (F_laws_eqNode a0 a1) := callL_le (tt := tt) (FT := FT) (SP := SP) (j := 65) rfl (by kernel_rfl)
noncomputable def L_laws_eqIntSx0 (a0 : List Int) (a1 : List Int) (f0 : (Bool × Int) → Option (Ex Bool Bool)) (v1 : Bool) (v2 : Int) : Option (Ex Bool Bool) :=
  (bif (decide (v2 < (a0.length : Int))) then
  (ix a0 v2).bind (fun z3 => (ix a1 v2).bind (fun z4 => (bif (z3 != z4) then
  some (.ret false)
  else f0 (v1, (IntKind.i64.wrap (v2 + 1))))))
  else some (.go v1))
@[simp] noncomputable def J_laws_eqIntSx0 (v5 : Bool) : Option Bool :=
  some true
theorem U_laws_eqIntS (a0 : List Int) (a1 : List Int) : Le ((bif ((a0.length : Int) != (a1.length : Int)) then
  some false
  else joinK (loopF (fun f s => L_laws_eqIntSx0 a0 a1 f s.1 s.2) (false, 0))
  (fun s => J_laws_eqIntSx0 s))) (F_laws_eqIntS a0 a1) := callL_le (tt := tt) (FT := FT) (SP := SP) (j := 66) rfl (by kernel_rfl)
noncomputable def L_laws_eqStepSx0 (a0 : List SStep) (a1 : List SStep) (f0 : (Bool × Int) → Option (Ex Bool Bool)) (v1 : Bool) (v2 : Int) : Option (Ex Bool Bool) :=
  (bif (decide (v2 < (a0.length : Int))) then
  (ix a0 v2).bind (fun z3 => (ix a1 v2).bind (fun z4 => (F_laws_eqStep z3 z4).bind (fun y5 => (bif (!y5) then
  some (.ret false)
  else f0 (v1, (IntKind.i64.wrap (v2 + 1)))))))
  else some (.go v1))
@[simp] noncomputable def J_laws_eqStepSx0 (v6 : Bool) : Option Bool :=
  some true
theorem U_laws_eqStepS (a0 : List SStep) (a1 : List SStep) : Le ((bif ((a0.length : Int) != (a1.length : Int)) then
  some false
  else joinK (loopF (fun f s => L_laws_eqStepSx0 a0 a1 f s.1 s.2) (false, 0))
  (fun s => J_laws_eqStepSx0 s))) (F_laws_eqStepS a0 a1) := callL_le (tt := tt) (FT := FT) (SP := SP) (j := 67) rfl (by kernel_rfl)
theorem U_laws_eqStep (a0 : SStep) (a1 : SStep) : Le ((bif (a0.1 != a1.1) then
  some false
  else (bif (a0.2.1 != a1.2.1) then
  some false
  else some true))) (F_laws_eqStep a0 a1) := callL_le (tt := tt) (FT := FT) (SP := SP) (j := 68) rfl (by kernel_rfl)
noncomputable def L_laws_eqTableSx0 (a0 : List STable) (a1 : List STable) (f0 : (Bool × Int) → Option (Ex Bool Bool)) (v1 : Bool) (v2 : Int) : Option (Ex Bool Bool) :=
  (bif (decide (v2 < (a0.length : Int))) then
  (ix a0 v2).bind (fun z3 => (ix a1 v2).bind (fun z4 => (F_laws_eqTable z3 z4).bind (fun y5 => (bif (!y5) then
  some (.ret false)
  else f0 (v1, (IntKind.i64.wrap (v2 + 1)))))))
  else some (.go v1))
@[simp] noncomputable def J_laws_eqTableSx0 (v6 : Bool) : Option Bool :=
  some true
theorem U_laws_eqTableS (a0 : List STable) (a1 : List STable) : Le ((bif ((a0.length : Int) != (a1.length : Int)) then
  some false
  else joinK (loopF (fun f s => L_laws_eqTableSx0 a0 a1 f s.1 s.2) (false, 0))
  (fun s => J_laws_eqTableSx0 s))) (F_laws_eqTableS a0 a1) := callL_le (tt := tt) (FT := FT) (SP := SP) (j := 69) rfl (by kernel_rfl)
theorem U_laws_eqTable (a0 : STable) (a1 : STable) : Le ((bif (!(a0.1.toList == a1.1.toList)) then
  some false
  else (bif (a0.2.1 != a1.2.1) then
  some false
  else some true))) (F_laws_eqTable a0 a1) := callL_le (tt := tt) (FT := FT) (SP := SP) (j := 70) rfl (by kernel_rfl)
noncomputable def L_laws_markTableSx0 (f0 : (Int × Int × (List STable)) → Option (Ex (Int × (List STable)) (Int × (List STable)))) (v1 : Int) (v2 : Int) (v3 : List STable) : Option (Ex (Int × (List STable)) (Int × (List STable))) :=
  (bif (decide (v2 < (v3.length : Int))) then
  (F_laws_markText v1).bind (fun y4 => (ix v3 v2).bind (fun z5 => (ix v3 v2).bind (fun z6 => (ix (v3.set (v2).toNat (y4, z6.2)) v2).bind (fun z7 => (ix (v3.set (v2).toNat (y4, z6.2)) v2).bind (fun z8 => f0 ((IntKind.i64.wrap ((IntKind.i64.wrap (v1 + 1)) + 1)), (IntKind.i64.wrap (v2 + 1)), ((v3.set (v2).toNat (y4, z6.2)).set (v2).toNat (z8.1, ((IntKind.i64.wrap (v1 + 1)), z8.2.2)))))))))
  else some (.go (v1, v3)))
@[simp] noncomputable def J_laws_markTableSx0 (v9 : Int) (v10 : List STable) : Option (Int × (List STable)) :=
  some (v9, v10)
theorem U_laws_markTableS (a0 : List STable) (a1 : Int) : Le (joinK (loopF (fun f s => L_laws_markTableSx0 f s.1 s.2.1 s.2.2) (a1, 0, a0))
  (fun s => J_laws_markTableSx0 s.1 s.2)) (F_laws_markTableS a0 a1) := callL_le (tt := tt) (FT := FT) (SP := SP) (j := 71) rfl (by kernel_rfl)
noncomputable def L_laws_markTextx0 (f0 : (Int × ByteArray) → Option (Ex ByteArray ByteArray)) (v1 : Int) (v2 : ByteArray) : Option (Ex ByteArray ByteArray) :=
  (bif (decide (v1 > 0)) then
  (remx v1 10).bind (fun z3 => (addx (bsOf ([(IntKind.u8.wrap (IntKind.i64.wrap (48 + z3)))])) v2).bind (fun z4 => (quox v1 10).bind (fun z5 => f0 (z5, z4))))
  else some (.go v2))
@[simp] noncomputable def J_laws_markTextx0 (v6 : ByteArray) : Option ByteArray :=
  (addx (⟨#[109]⟩ : ByteArray) v6).bind (fun z7 => some z7)
theorem U_laws_markText (a0 : Int) : Le ((bif (decide (a0 ≤ 0)) then
  some (⟨#[109, 48]⟩ : ByteArray)
  else joinK (loopF (fun f s => L_laws_markTextx0 f s.1 s.2) (a0, ByteArray.empty))
  (fun s => J_laws_markTextx0 s))) (F_laws_markText a0) := callL_le (tt := tt) (FT := FT) (SP := SP) (j := 72) rfl (by kernel_rfl)
noncomputable def L_laws_markOpSx0 (f0 : (Int × Int × (List SOp)) → Option (Ex (Int × (List SOp)) (Int × (List SOp)))) (v1 : Int) (v2 : Int) (v3 : List SOp) : Option (Ex (Int × (List SOp)) (Int × (List SOp))) :=
  (bif (decide (v2 < (v3.length : Int))) then
  (ix v3 v2).bind (fun z4 => (ix v3 v2).bind (fun z5 => (ix (v3.set (v2).toNat (v1, z5.2)) v2).bind (fun z6 => (ix (v3.set (v2).toNat (v1, z5.2)) v2).bind (fun z7 => (bind2 (ix (v3.set (v2).toNat (v1, z5.2)) v2) (fun z8 => F_laws_markNodeS z8.2.1 (IntKind.i64.wrap (v1 + 1)))).bind (fun y9 => (ix ((v3.set (v2).toNat (v1, z5.2)).set (v2).toNat (y9.1.1, (y9.2.2, y9.1.2.2))) v2).bind (fun z10 => (ix ((v3.set (v2).toNat (v1, z5.2)).set (v2).toNat (y9.1.1, (y9.2.2, y9.1.2.2))) v2).bind (fun z11 => (bind2 (ix ((v3.set (v2).toNat (v1, z5.2)).set (v2).toNat (y9.1.1, (y9.2.2, y9.1.2.2))) v2) (fun z12 => F_laws_markNodeS z12.2.2.1 y9.2.1)).bind (fun y13 => (ix (((v3.set (v2).toNat (v1, z5.2)).set (v2).toNat (y9.1.1, (y9.2.2, y9.1.2.2))).set (v2).toNat (y13.1.1, (y13.1.2.1, (y13.2.2, y13.1.2.2.2)))) v2).bind (fun z14 => (ix (((v3.set (v2).toNat (v1, z5.2)).set (v2).toNat (y9.1.1, (y9.2.2, y9.1.2.2))).set (v2).toNat (y13.1.1, (y13.1.2.1, (y13.2.2, y13.1.2.2.2)))) v2).bind (fun z15 => (bind2 (ix (((v3.set (v2).toNat (v1, z5.2)).set (v2).toNat (y9.1.1, (y9.2.2, y9.1.2.2))).set (v2).toNat (y13.1.1, (y13.1.2.1, (y13.2.2, y13.1.2.2.2)))) v2) (fun z16 => F_laws_markStepS z16.2.2.2.1 y13.2.1)).bind (fun y17 => f0 (y17.2.1, (IntKind.i64.wrap (v2 + 1)), ((((v3.set (v2).toNat (v1, z5.2)).set (v2).toNat (y9.1.1, (y9.2.2, y9.1.2.2))).set (v2).toNat (y13.1.1, (y13.1.2.1, (y13.2.2, y13.1.2.2.2)))).set (v2).toNat (y17.1.1, (y17.1.2.1, (y17.1.2.2.1, (y17.2.2, y17.1.2.2.2.2)))))))))))))))))
  else some (.go (v1, v3)))
@[simp] noncomputable def J_laws_markOpSx0 (v18 : Int) (v19 : List SOp) : Option (Int × (List SOp)) :=
  some (v18, v19)
theorem U_laws_markOpS (a0 : List SOp) (a1 : Int) : Le (joinK (loopF (fun f s => L_laws_markOpSx0 f s.1 s.2.1 s.2.2) (a1, 0, a0))
  (fun s => J_laws_markOpSx0 s.1 s.2)) (F_laws_markOpS a0 a1) := callL_le (tt := tt) (FT := FT) (SP := SP) (j := 73) rfl (by kernel_rfl)
noncomputable def L_laws_markNodeSx0 (f0 : (Int × Int × (List SNode)) → Option (Ex (Int × (List SNode)) (Int × (List SNode)))) (v1 : Int) (v2 : Int) (v3 : List SNode) : Option (Ex (Int × (List SNode)) (Int × (List SNode))) :=
  (bif (decide (v2 < (v3.length : Int))) then
  (ix v3 v2).bind (fun z4 => (ix v3 v2).bind (fun z5 => (F_laws_markText (IntKind.i64.wrap (v1 + 1))).bind (fun y6 => (ix (v3.set (v2).toNat (v1, z5.2)) v2).bind (fun z7 => (ix (v3.set (v2).toNat (v1, z5.2)) v2).bind (fun z8 => (ix ((v3.set (v2).toNat (v1, z5.2)).set (v2).toNat (z8.1, (y6, z8.2.2))) v2).bind (fun z9 => (ix ((v3.set (v2).toNat (v1, z5.2)).set (v2).toNat (z8.1, (y6, z8.2.2))) v2).bind (fun z10 => (ix (((v3.set (v2).toNat (v1, z5.2)).set (v2).toNat (z8.1, (y6, z8.2.2))).set (v2).toNat (z10.1, (z10.2.1, ((IntKind.i64.wrap ((IntKind.i64.wrap (v1 + 1)) + 1)), z10.2.2.2)))) v2).bind (fun z11 => (ix (((v3.set (v2).toNat (v1, z5.2)).set (v2).toNat (z8.1, (y6, z8.2.2))).set (v2).toNat (z10.1, (z10.2.1, ((IntKind.i64.wrap ((IntKind.i64.wrap (v1 + 1)) + 1)), z10.2.2.2)))) v2).bind (fun z12 => (ix ((((v3.set (v2).toNat (v1, z5.2)).set (v2).toNat (z8.1, (y6, z8.2.2))).set (v2).toNat (z10.1, (z10.2.1, ((IntKind.i64.wrap ((IntKind.i64.wrap (v1 + 1)) + 1)), z10.2.2.2)))).set (v2).toNat (z12.1, (z12.2.1, (z12.2.2.1, ((IntKind.i64.wrap ((IntKind.i64.wrap ((IntKind.i64.wrap (v1 + 1)) + 1)) + 1)), z12.2.2.2.2))))) v2).bind (fun z13 => (ix ((((v3.set (v2).toNat (v1, z5.2)).set (v2).toNat (z8.1, (y6, z8.2.2))).set (v2).toNat (z10.1, (z10.2.1, ((IntKind.i64.wrap ((IntKind.i64.wrap (v1 + 1)) + 1)), z10.2.2.2)))).set (v2).toNat (z12.1, (z12.2.1, (z12.2.2.1, ((IntKind.i64.wrap ((IntKind.i64.wrap ((IntKind.i64.wrap (v1 + 1)) + 1)) + 1)), z12.2.2.2.2))))) v2).bind (fun z14 => (remx (IntKind.i64.wrap ((IntKind.i64.wrap ((IntKind.i64.wrap ((IntKind.i64.wrap ((IntKind.i64.wrap (v1 + 1)) + 1)) + 1)) + 1)) + 1)) 3).bind (fun z15 => (ix (((((v3.set (v2).toNat (v1, z5.2)).set (v2).toNat (z8.1, (y6, z8.2.2))).set (v2).toNat (z10.1, (z10.2.1, ((IntKind.i64.wrap ((IntKind.i64.wrap (v1 + 1)) + 1)), z10.2.2.2)))).set (v2).toNat (z12.1, (z12.2.1, (z12.2.2.1, ((IntKind.i64.wrap ((IntKind.i64.wrap ((IntKind.i64.wrap (v1 + 1)) + 1)) + 1)), z12.2.2.2.2))))).set (v2).toNat (z14.1, (z14.2.1, (z14.2.2.1, (z14.2.2.2.1, ((IntKind.i64.wrap ((IntKind.i64.wrap ((IntKind.i64.wrap ((IntKind.i64.wrap (v1 + 1)) + 1)) + 1)) + 1)), z14.2.2.2.2.2)))))) v2).bind (fun z16 => (ix (((((v3.set (v2).toNat (v1, z5.2)).set (v2).toNat (z8.1, (y6, z8.2.2))).set (v2).toNat (z10.1, (z10.2.1, ((IntKind.i64.wrap ((IntKind.i64.wrap (v1 + 1)) + 1)), z10.2.2.2)))).set (v2).toNat (z12.1, (z12.2.1, (z12.2.2.1, ((IntKind.i64.wrap ((IntKind.i64.wrap ((IntKind.i64.wrap (v1 + 1)) + 1)) + 1)), z12.2.2.2.2))))).set (v2).toNat (z14.1, (z14.2.1, (z14.2.2.1, (z14.2.2.2.1, ((IntKind.i64.wrap ((IntKind.i64.wrap ((IntKind.i64.wrap ((IntKind.i64.wrap (v1 + 1)) + 1)) + 1)) + 1)), z14.2.2.2.2.2)))))) v2).bind (fun z17 => (ix ((((((v3.set (v2).toNat (v1, z5.2)).set (v2).toNat (z8.1, (y6, z8.2.2))).set (v2).toNat (z10.1, (z10.2.1, ((IntKind.i64.wrap ((IntKind.i64.wrap (v1 + 1)) + 1)), z10.2.2.2)))).set (v2).toNat (z12.1, (z12.2.1, (z12.2.2.1, ((IntKind.i64.wrap ((IntKind.i64.wrap ((IntKind.i64.wrap (v1 + 1)) + 1)) + 1)), z12.2.2.2.2))))).set (v2).toNat (z14.1, (z14.2.1, (z14.2.2.1, (z14.2.2.2.1, ((IntKind.i64.wrap ((IntKind.i64.wrap ((IntKind.i64.wrap ((IntKind.i64.wrap (v1 + 1)) + 1)) + 1)) + 1)), z14.2.2.2.2.2)))))).set (v2).toNat (z17.1, (z17.2.1, (z17.2.2.1, (z17.2.2.2.1, (z17.2.2.2.2.1, ((z15 == 0), z17.2.2.2.2.2.2))))))) v2).bind (fun z18 => (ix ((((((v3.set (v2).toNat (v1, z5.2)).set (v2).toNat (z8.1, (y6, z8.2.2))).set (v2).toNat (z10.1, (z10.2.1, ((IntKind.i64.wrap ((IntKind.i64.wrap (v1 + 1)) + 1)), z10.2.2.2)))).set (v2).toNat (z12.1, (z12.2.1, (z12.2.2.1, ((IntKind.i64.wrap ((IntKind.i64.wrap ((IntKind.i64.wrap (v1 + 1)) + 1)) + 1)), z12.2.2.2.2))))).set (v2).toNat (z14.1, (z14.2.1, (z14.2.2.1, (z14.2.2.2.1, ((IntKind.i64.wrap ((IntKind.i64.wrap ((IntKind.i64.wrap ((IntKind.i64.wrap (v1 + 1)) + 1)) + 1)) + 1)), z14.2.2.2.2.2)))))).set (v2).toNat (z17.1, (z17.2.1, (z17.2.2.1, (z17.2.2.2.1, (z17.2.2.2.2.1, ((z15 == 0), z17.2.2.2.2.2.2))))))) v2).bind (fun z19 => (bind2 (ix ((((((v3.set (v2).toNat (v1, z5.2)).set (v2).toNat (z8.1, (y6, z8.2.2))).set (v2).toNat (z10.1, (z10.2.1, ((IntKind.i64.wrap ((IntKind.i64.wrap (v1 + 1)) + 1)), z10.2.2.2)))).set (v2).toNat (z12.1, (z12.2.1, (z12.2.2.1, ((IntKind.i64.wrap ((IntKind.i64.wrap ((IntKind.i64.wrap (v1 + 1)) + 1)) + 1)), z12.2.2.2.2))))).set (v2).toNat (z14.1, (z14.2.1, (z14.2.2.1, (z14.2.2.2.1, ((IntKind.i64.wrap ((IntKind.i64.wrap ((IntKind.i64.wrap ((IntKind.i64.wrap (v1 + 1)) + 1)) + 1)) + 1)), z14.2.2.2.2.2)))))).set (v2).toNat (z17.1, (z17.2.1, (z17.2.2.1, (z17.2.2.2.1, (z17.2.2.2.2.1, ((z15 == 0), z17.2.2.2.2.2.2))))))) v2) (fun z20 => F_laws_markIntS z20.2.2.2.2.2.2.1 (IntKind.i64.wrap ((IntKind.i64.wrap ((IntKind.i64.wrap ((IntKind.i64.wrap ((IntKind.i64.wrap ((IntKind.i64.wrap (v1 + 1)) + 1)) + 1)) + 1)) + 1)) + 1)))).bind (fun y21 => f0 (y21.2.1, (IntKind.i64.wrap (v2 + 1)), (((((((v3.set (v2).toNat (v1, z5.2)).set (v2).toNat (z8.1, (y6, z8.2.2))).set (v2).toNat (z10.1, (z10.2.1, ((IntKind.i64.wrap ((IntKind.i64.wrap (v1 + 1)) + 1)), z10.2.2.2)))).set (v2).toNat (z12.1, (z12.2.1, (z12.2.2.1, ((IntKind.i64.wrap ((IntKind.i64.wrap ((IntKind.i64.wrap (v1 + 1)) + 1)) + 1)), z12.2.2.2.2))))).set (v2).toNat (z14.1, (z14.2.1, (z14.2.2.1, (z14.2.2.2.1, ((IntKind.i64.wrap ((IntKind.i64.wrap ((IntKind.i64.wrap ((IntKind.i64.wrap (v1 + 1)) + 1)) + 1)) + 1)), z14.2.2.2.2.2)))))).set (v2).toNat (z17.1, (z17.2.1, (z17.2.2.1, (z17.2.2.2.1, (z17.2.2.2.2.1, ((z15 == 0), z17.2.2.2.2.2.2))))))).set (v2).toNat (y21.1.1, (y21.1.2.1, (y21.1.2.2.1, (y21.1.2.2.2.1, (y21.1.2.2.2.2.1, (y21.1.2.2.2.2.2.1, (y21.2.2, y21.1.2.2.2.2.2.2.2))))))))))))))))))))))))))
  else some (.go (v1, v3)))
@[simp] noncomputable def J_laws_markNodeSx0 (v22 : Int) (v23 : List SNode) : Option (Int × (List SNode)) :=
  some (v22, v23)
theorem U_laws_markNodeS (a0 : List SNode) (a1 : Int) : Le (joinK (loopF (fun f s => L_laws_markNodeSx0 f s.1 s.2.1 s.2.2) (a1, 0, a0))
  (fun s => J_laws_markNodeSx0 s.1 s.2)) (F_laws_markNodeS a0 a1) := callL_le (tt := tt) (FT := FT) (SP := SP) (j := 74) rfl (by kernel_rfl)
noncomputable def L_laws_markIntSx0 (f0 : (Int × Int × (List Int)) → Option (Ex (Int × (List Int)) (Int × (List Int)))) (v1 : Int) (v2 : Int) (v3 : List Int) : Option (Ex (Int × (List Int)) (Int × (List Int))) :=
  (bif (decide (v2 < (v3.length : Int))) then
  (ix v3 v2).bind (fun z4 => (stx v3 v2 v1).bind (fun z5 => f0 ((IntKind.i64.wrap (v1 + 1)), (IntKind.i64.wrap (v2 + 1)), z5)))
  else some (.go (v1, v3)))
@[simp] noncomputable def J_laws_markIntSx0 (v6 : Int) (v7 : List Int) : Option (Int × (List Int)) :=
  some (v6, v7)
theorem U_laws_markIntS (a0 : List Int) (a1 : Int) : Le (joinK (loopF (fun f s => L_laws_markIntSx0 f s.1 s.2.1 s.2.2) (a1, 0, a0))
  (fun s => J_laws_markIntSx0 s.1 s.2)) (F_laws_markIntS a0 a1) := callL_le (tt := tt) (FT := FT) (SP := SP) (j := 75) rfl (by kernel_rfl)
noncomputable def L_laws_markStepSx0 (f0 : (Int × Int × (List SStep)) → Option (Ex (Int × (List SStep)) (Int × (List SStep)))) (v1 : Int) (v2 : Int) (v3 : List SStep) : Option (Ex (Int × (List SStep)) (Int × (List SStep))) :=
  (bif (decide (v2 < (v3.length : Int))) then
  (ix v3 v2).bind (fun z4 => (ix v3 v2).bind (fun z5 => (ix (v3.set (v2).toNat (v1, z5.2)) v2).bind (fun z6 => (ix (v3.set (v2).toNat (v1, z5.2)) v2).bind (fun z7 => f0 ((IntKind.i64.wrap ((IntKind.i64.wrap (v1 + 1)) + 1)), (IntKind.i64.wrap (v2 + 1)), ((v3.set (v2).toNat (v1, z5.2)).set (v2).toNat (z7.1, ((IntKind.i64.wrap (v1 + 1)), z7.2.2))))))))
  else some (.go (v1, v3)))
@[simp] noncomputable def J_laws_markStepSx0 (v8 : Int) (v9 : List SStep) : Option (Int × (List SStep)) :=
  some (v8, v9)
theorem U_laws_markStepS (a0 : List SStep) (a1 : Int) : Le (joinK (loopF (fun f s => L_laws_markStepSx0 f s.1 s.2.1 s.2.2) (a1, 0, a0))
  (fun s => J_laws_markStepSx0 s.1 s.2)) (F_laws_markStepS a0 a1) := callL_le (tt := tt) (FT := FT) (SP := SP) (j := 76) rfl (by kernel_rfl)
noncomputable def L_laws_heldOpSx0 (a0 : List SOp) (f0 : (Int × Int × Int) → Option (Ex Int (Int × Int))) (v1 : Int) (v2 : Int) (v3 : Int) : Option (Ex Int (Int × Int)) :=
  (bif (decide (v3 < (a0.length : Int))) then
  (ix a0 v3).bind (fun z4 => (bif (z4.1 != v1) then
  some (.ret (-1))
  else (ix a0 v3).bind (fun z5 => (F_laws_heldNodeS z5.2.1 (IntKind.i64.wrap (v1 + 1))).bind (fun y6 => (bif (decide (y6 < 0)) then
  some (.ret (-1))
  else (ix a0 v3).bind (fun z7 => (F_laws_heldNodeS z7.2.2.1 y6).bind (fun y8 => (bif (decide (y8 < 0)) then
  some (.ret (-1))
  else (ix a0 v3).bind (fun z9 => (F_laws_heldStepS z9.2.2.2.1 y8).bind (fun y10 => (bif (decide (y10 < 0)) then
  some (.ret (-1))
  else f0 (y10, v2, (IntKind.i64.wrap (v3 + 1))))))))))))))
  else some (.go (v1, v2)))
@[simp] noncomputable def J_laws_heldOpSx0 (v11 : Int) (v12 : Int) : Option Int :=
  some v11
theorem U_laws_heldOpS (a0 : List SOp) (a1 : Int) : Le (joinK (loopF (fun f s => L_laws_heldOpSx0 a0 f s.1 s.2.1 s.2.2) (a1, 0, 0))
  (fun s => J_laws_heldOpSx0 s.1 s.2)) (F_laws_heldOpS a0 a1) := callL_le (tt := tt) (FT := FT) (SP := SP) (j := 77) rfl (by kernel_rfl)
noncomputable def L_laws_heldNodeSx0 (a0 : List SNode) (f0 : (Int × Int × Int) → Option (Ex Int (Int × Int))) (v1 : Int) (v2 : Int) (v3 : Int) : Option (Ex Int (Int × Int)) :=
  (bif (decide (v3 < (a0.length : Int))) then
  (ix a0 v3).bind (fun z4 => (bif (z4.1 != v1) then
  some (.ret (-1))
  else (ix a0 v3).bind (fun z5 => (F_laws_markText (IntKind.i64.wrap (v1 + 1))).bind (fun y6 => (bif (!(z5.2.1.toList == y6.toList)) then
  some (.ret (-1))
  else (ix a0 v3).bind (fun z7 => (bif (z7.2.2.1 != (IntKind.i64.wrap ((IntKind.i64.wrap (v1 + 1)) + 1))) then
  some (.ret (-1))
  else (ix a0 v3).bind (fun z8 => (bif (z8.2.2.2.1 != (IntKind.i64.wrap ((IntKind.i64.wrap ((IntKind.i64.wrap (v1 + 1)) + 1)) + 1))) then
  some (.ret (-1))
  else (ix a0 v3).bind (fun z9 => (bif (z9.2.2.2.2.1 != (IntKind.i64.wrap ((IntKind.i64.wrap ((IntKind.i64.wrap ((IntKind.i64.wrap (v1 + 1)) + 1)) + 1)) + 1))) then
  some (.ret (-1))
  else (ix a0 v3).bind (fun z10 => (remx (IntKind.i64.wrap ((IntKind.i64.wrap ((IntKind.i64.wrap ((IntKind.i64.wrap ((IntKind.i64.wrap (v1 + 1)) + 1)) + 1)) + 1)) + 1)) 3).bind (fun z11 => (bif (z10.2.2.2.2.2.1 != (z11 == 0)) then
  some (.ret (-1))
  else (ix a0 v3).bind (fun z12 => (F_laws_heldIntS z12.2.2.2.2.2.2.1 (IntKind.i64.wrap ((IntKind.i64.wrap ((IntKind.i64.wrap ((IntKind.i64.wrap ((IntKind.i64.wrap ((IntKind.i64.wrap (v1 + 1)) + 1)) + 1)) + 1)) + 1)) + 1))).bind (fun y13 => (bif (decide (y13 < 0)) then
  some (.ret (-1))
  else f0 (y13, v2, (IntKind.i64.wrap (v3 + 1))))))))))))))))))))
  else some (.go (v1, v2)))
@[simp] noncomputable def J_laws_heldNodeSx0 (v14 : Int) (v15 : Int) : Option Int :=
  some v14
theorem U_laws_heldNodeS (a0 : List SNode) (a1 : Int) : Le (joinK (loopF (fun f s => L_laws_heldNodeSx0 a0 f s.1 s.2.1 s.2.2) (a1, 0, 0))
  (fun s => J_laws_heldNodeSx0 s.1 s.2)) (F_laws_heldNodeS a0 a1) := callL_le (tt := tt) (FT := FT) (SP := SP) (j := 78) rfl (by kernel_rfl)
noncomputable def L_laws_heldIntSx0 (a0 : List Int) (f0 : (Int × Int × Int) → Option (Ex Int (Int × Int))) (v1 : Int) (v2 : Int) (v3 : Int) : Option (Ex Int (Int × Int)) :=
  (bif (decide (v3 < (a0.length : Int))) then
  (ix a0 v3).bind (fun z4 => (bif (z4 != v1) then
  some (.ret (-1))
  else f0 ((IntKind.i64.wrap (v1 + 1)), v2, (IntKind.i64.wrap (v3 + 1)))))
  else some (.go (v1, v2)))
@[simp] noncomputable def J_laws_heldIntSx0 (v5 : Int) (v6 : Int) : Option Int :=
  some v5
theorem U_laws_heldIntS (a0 : List Int) (a1 : Int) : Le (joinK (loopF (fun f s => L_laws_heldIntSx0 a0 f s.1 s.2.1 s.2.2) (a1, 0, 0))
  (fun s => J_laws_heldIntSx0 s.1 s.2)) (F_laws_heldIntS a0 a1) := callL_le (tt := tt) (FT := FT) (SP := SP) (j := 79) rfl (by kernel_rfl)
noncomputable def L_laws_heldStepSx0 (a0 : List SStep) (f0 : (Int × Int × Int) → Option (Ex Int (Int × Int))) (v1 : Int) (v2 : Int) (v3 : Int) : Option (Ex Int (Int × Int)) :=
  (bif (decide (v3 < (a0.length : Int))) then
  (ix a0 v3).bind (fun z4 => (bif (z4.1 != v1) then
  some (.ret (-1))
  else (ix a0 v3).bind (fun z5 => (bif (z5.2.1 != (IntKind.i64.wrap (v1 + 1))) then
  some (.ret (-1))
  else f0 ((IntKind.i64.wrap ((IntKind.i64.wrap (v1 + 1)) + 1)), v2, (IntKind.i64.wrap (v3 + 1)))))))
  else some (.go (v1, v2)))
@[simp] noncomputable def J_laws_heldStepSx0 (v6 : Int) (v7 : Int) : Option Int :=
  some v6
theorem U_laws_heldStepS (a0 : List SStep) (a1 : Int) : Le (joinK (loopF (fun f s => L_laws_heldStepSx0 a0 f s.1 s.2.1 s.2.2) (a1, 0, 0))
  (fun s => J_laws_heldStepSx0 s.1 s.2)) (F_laws_heldStepS a0 a1) := callL_le (tt := tt) (FT := FT) (SP := SP) (j := 80) rfl (by kernel_rfl)
end Go.Proofs.YtglbcdlplbomdaaX
