/- Printed: for each function that the statement reaches, a plain function, and that it is what the program's function answers. -/
import Derived.Test.YtpfjldlopeaniaaGreatProg
import Derived.Test.YtpfjldlopeaniaaGreatTrcC
set_option linter.all false
namespace Go.Proofs.YtpfjldlopeaniaaGreatX
open Go Go.Proofs Go.Proofs.YtpfjldlopeaniaaGreatT
set_option maxRecDepth 100000
set_option linter.all false
abbrev STable := ByteArray × Int × Unit
abbrev SNode := Int × ByteArray × Int × Int × Int × Bool × (List Int) × Unit
abbrev SEntry := Int × (List SNode) × (List SNode) × Int × Int × Unit
abbrev SShelf := Int × (List STable) × (List SEntry) × Int × Int × Int × Int × Int × Int × Unit
def ttL : List (Nat × Ty) := [(3, (.int .i64)),
  (4, .bool),
  (5, (.int .u8)),
  (9, .str),
  (22, (.sl 110 (.pr .str (.pr (.int .i64) .un)))),
  (23, (.sl 175 (.pr (.int .i64) (.pr (.sl 121 (.pr (.int .i64) (.pr .str (.pr (.int .i64) (.pr (.int .i64) (.pr (.int .i64) (.pr .bool (.pr (.sl 3 (.int .i64)) .un)))))))) (.pr (.sl 121 (.pr (.int .i64) (.pr .str (.pr (.int .i64) (.pr (.int .i64) (.pr (.int .i64) (.pr .bool (.pr (.sl 3 (.int .i64)) .un)))))))) (.pr (.int .i64) (.pr (.int .i64) .un))))))),
  (25, (.pr (.int .i64) (.pr (.sl 110 (.pr .str (.pr (.int .i64) .un))) (.pr (.sl 175 (.pr (.int .i64) (.pr (.sl 121 (.pr (.int .i64) (.pr .str (.pr (.int .i64) (.pr (.int .i64) (.pr (.int .i64) (.pr .bool (.pr (.sl 3 (.int .i64)) .un)))))))) (.pr (.sl 121 (.pr (.int .i64) (.pr .str (.pr (.int .i64) (.pr (.int .i64) (.pr (.int .i64) (.pr .bool (.pr (.sl 3 (.int .i64)) .un)))))))) (.pr (.int .i64) (.pr (.int .i64) .un)))))) (.pr (.int .i64) (.pr (.int .i64) (.pr (.int .i64) (.pr (.int .i64) (.pr (.int .i64) (.pr (.int .i64) .un)))))))))),
  (28, (.sl 114 (.pr .str (.pr (.int .i64) .un)))),
  (29, (.sl 102 (.pr (.int .i64) (.pr (.sl 126 (.pr (.int .i64) (.pr .str (.pr (.int .i64) (.pr (.int .i64) (.pr (.int .i64) (.pr .bool (.pr (.sl 3 (.int .i64)) .un)))))))) (.pr (.sl 126 (.pr (.int .i64) (.pr .str (.pr (.int .i64) (.pr (.int .i64) (.pr (.int .i64) (.pr .bool (.pr (.sl 3 (.int .i64)) .un)))))))) (.pr (.int .i64) (.pr (.int .i64) .un))))))),
  (31, (.pr (.int .i64) (.pr (.sl 114 (.pr .str (.pr (.int .i64) .un))) (.pr (.sl 102 (.pr (.int .i64) (.pr (.sl 126 (.pr (.int .i64) (.pr .str (.pr (.int .i64) (.pr (.int .i64) (.pr (.int .i64) (.pr .bool (.pr (.sl 3 (.int .i64)) .un)))))))) (.pr (.sl 126 (.pr (.int .i64) (.pr .str (.pr (.int .i64) (.pr (.int .i64) (.pr (.int .i64) (.pr .bool (.pr (.sl 3 (.int .i64)) .un)))))))) (.pr (.int .i64) (.pr (.int .i64) .un)))))) (.pr (.int .i64) (.pr (.int .i64) (.pr (.int .i64) (.pr (.int .i64) (.pr (.int .i64) (.pr (.int .i64) .un)))))))))),
  (35, (.sl 3 (.int .i64))),
  (50, (.sl 121 (.pr (.int .i64) (.pr .str (.pr (.int .i64) (.pr (.int .i64) (.pr (.int .i64) (.pr .bool (.pr (.sl 3 (.int .i64)) .un))))))))),
  (54, (.sl 126 (.pr (.int .i64) (.pr .str (.pr (.int .i64) (.pr (.int .i64) (.pr (.int .i64) (.pr .bool (.pr (.sl 3 (.int .i64)) .un))))))))),
  (74, (.sl 5 (.int .u8))),
  (102, (.pr (.int .i64) (.pr (.sl 126 (.pr (.int .i64) (.pr .str (.pr (.int .i64) (.pr (.int .i64) (.pr (.int .i64) (.pr .bool (.pr (.sl 3 (.int .i64)) .un)))))))) (.pr (.sl 126 (.pr (.int .i64) (.pr .str (.pr (.int .i64) (.pr (.int .i64) (.pr (.int .i64) (.pr .bool (.pr (.sl 3 (.int .i64)) .un)))))))) (.pr (.int .i64) (.pr (.int .i64) .un)))))),
  (110, (.pr .str (.pr (.int .i64) .un))),
  (114, (.pr .str (.pr (.int .i64) .un))),
  (121, (.pr (.int .i64) (.pr .str (.pr (.int .i64) (.pr (.int .i64) (.pr (.int .i64) (.pr .bool (.pr (.sl 3 (.int .i64)) .un)))))))),
  (126, (.pr (.int .i64) (.pr .str (.pr (.int .i64) (.pr (.int .i64) (.pr (.int .i64) (.pr .bool (.pr (.sl 3 (.int .i64)) .un)))))))),
  (175, (.pr (.int .i64) (.pr (.sl 121 (.pr (.int .i64) (.pr .str (.pr (.int .i64) (.pr (.int .i64) (.pr (.int .i64) (.pr .bool (.pr (.sl 3 (.int .i64)) .un)))))))) (.pr (.sl 121 (.pr (.int .i64) (.pr .str (.pr (.int .i64) (.pr (.int .i64) (.pr (.int .i64) (.pr .bool (.pr (.sl 3 (.int .i64)) .un)))))))) (.pr (.int .i64) (.pr (.int .i64) .un)))))),
  (273, (.sl 74 (.sl 5 (.int .u8))))]
def tt (T : TypeId) : Option Ty := lkT ttL T
theorem tt_ok : TTok Tryz.prog tt := lkT_ok (by kernel_rfl)
noncomputable def i_laws_FnExactRecentPrints : Inst := { f := 5, fn := Tryz.f5, n := 69, pds := [.rd (.pr (.int .i64) (.pr (.sl 110 (.pr .str (.pr (.int .i64) .un))) (.pr (.sl 175 (.pr (.int .i64) (.pr (.sl 121 (.pr (.int .i64) (.pr .str (.pr (.int .i64) (.pr (.int .i64) (.pr (.int .i64) (.pr .bool (.pr (.sl 3 (.int .i64)) .un)))))))) (.pr (.sl 121 (.pr (.int .i64) (.pr .str (.pr (.int .i64) (.pr (.int .i64) (.pr (.int .i64) (.pr .bool (.pr (.sl 3 (.int .i64)) .un)))))))) (.pr (.int .i64) (.pr (.int .i64) .un)))))) (.pr (.int .i64) (.pr (.int .i64) (.pr (.int .i64) (.pr (.int .i64) (.pr (.int .i64) (.pr (.int .i64) .un)))))))))], caps := [], res := [⟨false, false, .bool⟩], h := { al := [23, 24, 38, 39, 43, 46, 57, 58, 61], el := [], tk := [32], nn := [], ca := [(13, 1), (17, 9), (18, 17), (20, 9), (22, 55), (25, 106), (29, 9), (30, 107), (34, 114), (40, 106), (45, 119), (48, 120), (55, 9), (56, 55), (59, 106), (63, 120)], code := (.two .nil (.two .nil (.two .nil (.two .nil (.two .nil (.two .nil (.two .nil (.two .nil (.two .nil (.two .nil (.two .nil (.two (.join ⟨[], [(42, .v ⟨false, false, .bool⟩)]⟩ .nil .nil) .nil)))))))))))) } }
noncomputable def i_laws_szShelf : Inst := { f := 13, fn := Tryz.f13, n := 18, pds := [.rd (.pr (.int .i64) (.pr (.sl 110 (.pr .str (.pr (.int .i64) .un))) (.pr (.sl 175 (.pr (.int .i64) (.pr (.sl 121 (.pr (.int .i64) (.pr .str (.pr (.int .i64) (.pr (.int .i64) (.pr (.int .i64) (.pr .bool (.pr (.sl 3 (.int .i64)) .un)))))))) (.pr (.sl 121 (.pr (.int .i64) (.pr .str (.pr (.int .i64) (.pr (.int .i64) (.pr (.int .i64) (.pr .bool (.pr (.sl 3 (.int .i64)) .un)))))))) (.pr (.int .i64) (.pr (.int .i64) .un)))))) (.pr (.int .i64) (.pr (.int .i64) (.pr (.int .i64) (.pr (.int .i64) (.pr (.int .i64) (.pr (.int .i64) .un))))))))), .rd (.int .i64)], caps := [], res := [⟨false, false, (.int .i64)⟩], h := { al := [], el := [], tk := [], nn := [], ca := [(8, 2), (14, 4)], code := .nil } }
noncomputable def i_laws_szTableS : Inst := { f := 26, fn := Tryz.f26, n := 27, pds := [.rd (.sl 110 (.pr .str (.pr (.int .i64) .un))), .rd (.int .i64)], caps := [], res := [⟨false, false, (.int .i64)⟩], h := { al := [], el := [], tk := [], nn := [], ca := [(23, 3)], code := (.two .nil (.two .nil (.two .nil (.join ⟨[1, 4], [(1, .v ⟨false, false, (.int .i64)⟩), (4, .v ⟨false, false, (.int .i64)⟩)]⟩ (.two .nil (.loop ⟨[1, 4, 5], [(1, .v ⟨false, false, (.int .i64)⟩), (4, .v ⟨false, false, (.int .i64)⟩), (5, .v ⟨false, false, (.int .i64)⟩)]⟩ .nil)) .nil)))) } }
noncomputable def i_laws_szTable : Inst := { f := 84, fn := Tryz.f84, n := 13, pds := [.rd (.pr .str (.pr (.int .i64) .un)), .rd (.int .i64)], caps := [], res := [⟨false, false, (.int .i64)⟩], h := { al := [], el := [], tk := [], nn := [], ca := [], code := .nil } }
noncomputable def i_laws_szEntryS : Inst := { f := 77, fn := Tryz.f77, n := 27, pds := [.rd (.sl 175 (.pr (.int .i64) (.pr (.sl 121 (.pr (.int .i64) (.pr .str (.pr (.int .i64) (.pr (.int .i64) (.pr (.int .i64) (.pr .bool (.pr (.sl 3 (.int .i64)) .un)))))))) (.pr (.sl 121 (.pr (.int .i64) (.pr .str (.pr (.int .i64) (.pr (.int .i64) (.pr (.int .i64) (.pr .bool (.pr (.sl 3 (.int .i64)) .un)))))))) (.pr (.int .i64) (.pr (.int .i64) .un)))))), .rd (.int .i64)], caps := [], res := [⟨false, false, (.int .i64)⟩], h := { al := [], el := [], tk := [], nn := [], ca := [(23, 5)], code := (.two .nil (.two .nil (.two .nil (.join ⟨[1, 4], [(1, .v ⟨false, false, (.int .i64)⟩), (4, .v ⟨false, false, (.int .i64)⟩)]⟩ (.two .nil (.loop ⟨[1, 4, 5], [(1, .v ⟨false, false, (.int .i64)⟩), (4, .v ⟨false, false, (.int .i64)⟩), (5, .v ⟨false, false, (.int .i64)⟩)]⟩ .nil)) .nil)))) } }
noncomputable def i_laws_szEntry : Inst := { f := 145, fn := Tryz.f145, n := 18, pds := [.rd (.pr (.int .i64) (.pr (.sl 121 (.pr (.int .i64) (.pr .str (.pr (.int .i64) (.pr (.int .i64) (.pr (.int .i64) (.pr .bool (.pr (.sl 3 (.int .i64)) .un)))))))) (.pr (.sl 121 (.pr (.int .i64) (.pr .str (.pr (.int .i64) (.pr (.int .i64) (.pr (.int .i64) (.pr .bool (.pr (.sl 3 (.int .i64)) .un)))))))) (.pr (.int .i64) (.pr (.int .i64) .un))))), .rd (.int .i64)], caps := [], res := [⟨false, false, (.int .i64)⟩], h := { al := [], el := [], tk := [], nn := [], ca := [(8, 6), (14, 6)], code := .nil } }
noncomputable def i_laws_szNodeS : Inst := { f := 34, fn := Tryz.f34, n := 27, pds := [.rd (.sl 121 (.pr (.int .i64) (.pr .str (.pr (.int .i64) (.pr (.int .i64) (.pr (.int .i64) (.pr .bool (.pr (.sl 3 (.int .i64)) .un)))))))), .rd (.int .i64)], caps := [], res := [⟨false, false, (.int .i64)⟩], h := { al := [], el := [], tk := [], nn := [], ca := [(23, 7)], code := (.two .nil (.two .nil (.two .nil (.join ⟨[1, 4], [(1, .v ⟨false, false, (.int .i64)⟩), (4, .v ⟨false, false, (.int .i64)⟩)]⟩ (.two .nil (.loop ⟨[1, 4, 5], [(1, .v ⟨false, false, (.int .i64)⟩), (4, .v ⟨false, false, (.int .i64)⟩), (5, .v ⟨false, false, (.int .i64)⟩)]⟩ .nil)) .nil)))) } }
noncomputable def i_laws_szNode : Inst := { f := 90, fn := Tryz.f90, n := 19, pds := [.rd (.pr (.int .i64) (.pr .str (.pr (.int .i64) (.pr (.int .i64) (.pr (.int .i64) (.pr .bool (.pr (.sl 3 (.int .i64)) .un))))))), .rd (.int .i64)], caps := [], res := [⟨false, false, (.int .i64)⟩], h := { al := [], el := [], tk := [], nn := [], ca := [(15, 8)], code := .nil } }
noncomputable def i_laws_szIntS : Inst := { f := 152, fn := Tryz.f152, n := 12, pds := [.rd (.sl 3 (.int .i64)), .rd (.int .i64)], caps := [], res := [⟨false, false, (.int .i64)⟩], h := { al := [], el := [], tk := [], nn := [], ca := [], code := .nil } }
noncomputable def i_laws_toShelf : Inst := { f := 15, fn := Tryz.f15, n := 34, pds := [.rd (.pr (.int .i64) (.pr (.sl 110 (.pr .str (.pr (.int .i64) .un))) (.pr (.sl 175 (.pr (.int .i64) (.pr (.sl 121 (.pr (.int .i64) (.pr .str (.pr (.int .i64) (.pr (.int .i64) (.pr (.int .i64) (.pr .bool (.pr (.sl 3 (.int .i64)) .un)))))))) (.pr (.sl 121 (.pr (.int .i64) (.pr .str (.pr (.int .i64) (.pr (.int .i64) (.pr (.int .i64) (.pr .bool (.pr (.sl 3 (.int .i64)) .un)))))))) (.pr (.int .i64) (.pr (.int .i64) .un)))))) (.pr (.int .i64) (.pr (.int .i64) (.pr (.int .i64) (.pr (.int .i64) (.pr (.int .i64) (.pr (.int .i64) .un)))))))))], caps := [], res := [⟨true, true, (.pr (.int .i64) (.pr (.sl 114 (.pr .str (.pr (.int .i64) .un))) (.pr (.sl 102 (.pr (.int .i64) (.pr (.sl 126 (.pr (.int .i64) (.pr .str (.pr (.int .i64) (.pr (.int .i64) (.pr (.int .i64) (.pr .bool (.pr (.sl 3 (.int .i64)) .un)))))))) (.pr (.sl 126 (.pr (.int .i64) (.pr .str (.pr (.int .i64) (.pr (.int .i64) (.pr (.int .i64) (.pr .bool (.pr (.sl 3 (.int .i64)) .un)))))))) (.pr (.int .i64) (.pr (.int .i64) .un)))))) (.pr (.int .i64) (.pr (.int .i64) (.pr (.int .i64) (.pr (.int .i64) (.pr (.int .i64) (.pr (.int .i64) .un)))))))))⟩], h := { al := [], el := [], tk := [33], nn := [], ca := [(9, 10), (13, 12)], code := .nil } }
noncomputable def i_laws_toTableS : Inst := { f := 29, fn := Tryz.f29, n := 23, pds := [.rd (.sl 110 (.pr .str (.pr (.int .i64) .un)))], caps := [], res := [⟨true, true, (.sl 114 (.pr .str (.pr (.int .i64) .un)))⟩], h := { al := [14], el := [21], tk := [], nn := [], ca := [(20, 11)], code := (.two .nil (.two .nil (.join ⟨[3], [(3, .v ⟨true, true, (.sl 114 (.pr .str (.pr (.int .i64) .un)))⟩)]⟩ (.two .nil (.loop ⟨[3, 4], [(3, .v ⟨true, true, (.sl 114 (.pr .str (.pr (.int .i64) .un)))⟩), (4, .v ⟨false, false, (.int .i64)⟩)]⟩ .nil)) .nil))) } }
noncomputable def i_laws_toTable : Inst := { f := 86, fn := Tryz.f86, n := 11, pds := [.rd (.pr .str (.pr (.int .i64) .un))], caps := [], res := [⟨false, false, (.pr .str (.pr (.int .i64) .un))⟩], h := { al := [], el := [], tk := [], nn := [], ca := [], code := .nil } }
noncomputable def i_laws_toEntryS : Inst := { f := 78, fn := Tryz.f78, n := 23, pds := [.rd (.sl 175 (.pr (.int .i64) (.pr (.sl 121 (.pr (.int .i64) (.pr .str (.pr (.int .i64) (.pr (.int .i64) (.pr (.int .i64) (.pr .bool (.pr (.sl 3 (.int .i64)) .un)))))))) (.pr (.sl 121 (.pr (.int .i64) (.pr .str (.pr (.int .i64) (.pr (.int .i64) (.pr (.int .i64) (.pr .bool (.pr (.sl 3 (.int .i64)) .un)))))))) (.pr (.int .i64) (.pr (.int .i64) .un))))))], caps := [], res := [⟨true, true, (.sl 102 (.pr (.int .i64) (.pr (.sl 126 (.pr (.int .i64) (.pr .str (.pr (.int .i64) (.pr (.int .i64) (.pr (.int .i64) (.pr .bool (.pr (.sl 3 (.int .i64)) .un)))))))) (.pr (.sl 126 (.pr (.int .i64) (.pr .str (.pr (.int .i64) (.pr (.int .i64) (.pr (.int .i64) (.pr .bool (.pr (.sl 3 (.int .i64)) .un)))))))) (.pr (.int .i64) (.pr (.int .i64) .un))))))⟩], h := { al := [14], el := [21], tk := [], nn := [], ca := [(20, 13)], code := (.two .nil (.two .nil (.join ⟨[3], [(3, .v ⟨true, true, (.sl 102 (.pr (.int .i64) (.pr (.sl 126 (.pr (.int .i64) (.pr .str (.pr (.int .i64) (.pr (.int .i64) (.pr (.int .i64) (.pr .bool (.pr (.sl 3 (.int .i64)) .un)))))))) (.pr (.sl 126 (.pr (.int .i64) (.pr .str (.pr (.int .i64) (.pr (.int .i64) (.pr (.int .i64) (.pr .bool (.pr (.sl 3 (.int .i64)) .un)))))))) (.pr (.int .i64) (.pr (.int .i64) .un))))))⟩)]⟩ (.two .nil (.loop ⟨[3, 4], [(3, .v ⟨true, true, (.sl 102 (.pr (.int .i64) (.pr (.sl 126 (.pr (.int .i64) (.pr .str (.pr (.int .i64) (.pr (.int .i64) (.pr (.int .i64) (.pr .bool (.pr (.sl 3 (.int .i64)) .un)))))))) (.pr (.sl 126 (.pr (.int .i64) (.pr .str (.pr (.int .i64) (.pr (.int .i64) (.pr (.int .i64) (.pr .bool (.pr (.sl 3 (.int .i64)) .un)))))))) (.pr (.int .i64) (.pr (.int .i64) .un))))))⟩), (4, .v ⟨false, false, (.int .i64)⟩)]⟩ .nil)) .nil))) } }
noncomputable def i_laws_toEntry : Inst := { f := 146, fn := Tryz.f146, n := 22, pds := [.rd (.pr (.int .i64) (.pr (.sl 121 (.pr (.int .i64) (.pr .str (.pr (.int .i64) (.pr (.int .i64) (.pr (.int .i64) (.pr .bool (.pr (.sl 3 (.int .i64)) .un)))))))) (.pr (.sl 121 (.pr (.int .i64) (.pr .str (.pr (.int .i64) (.pr (.int .i64) (.pr (.int .i64) (.pr .bool (.pr (.sl 3 (.int .i64)) .un)))))))) (.pr (.int .i64) (.pr (.int .i64) .un)))))], caps := [], res := [⟨true, true, (.pr (.int .i64) (.pr (.sl 126 (.pr (.int .i64) (.pr .str (.pr (.int .i64) (.pr (.int .i64) (.pr (.int .i64) (.pr .bool (.pr (.sl 3 (.int .i64)) .un)))))))) (.pr (.sl 126 (.pr (.int .i64) (.pr .str (.pr (.int .i64) (.pr (.int .i64) (.pr (.int .i64) (.pr .bool (.pr (.sl 3 (.int .i64)) .un)))))))) (.pr (.int .i64) (.pr (.int .i64) .un)))))⟩], h := { al := [], el := [], tk := [21], nn := [], ca := [(9, 14), (13, 14)], code := .nil } }
noncomputable def i_laws_toNodeS : Inst := { f := 37, fn := Tryz.f37, n := 23, pds := [.rd (.sl 121 (.pr (.int .i64) (.pr .str (.pr (.int .i64) (.pr (.int .i64) (.pr (.int .i64) (.pr .bool (.pr (.sl 3 (.int .i64)) .un))))))))], caps := [], res := [⟨true, true, (.sl 126 (.pr (.int .i64) (.pr .str (.pr (.int .i64) (.pr (.int .i64) (.pr (.int .i64) (.pr .bool (.pr (.sl 3 (.int .i64)) .un))))))))⟩], h := { al := [14], el := [21], tk := [], nn := [], ca := [(20, 15)], code := (.two .nil (.two .nil (.join ⟨[3], [(3, .v ⟨true, true, (.sl 126 (.pr (.int .i64) (.pr .str (.pr (.int .i64) (.pr (.int .i64) (.pr (.int .i64) (.pr .bool (.pr (.sl 3 (.int .i64)) .un))))))))⟩)]⟩ (.two .nil (.loop ⟨[3, 4], [(3, .v ⟨true, true, (.sl 126 (.pr (.int .i64) (.pr .str (.pr (.int .i64) (.pr (.int .i64) (.pr (.int .i64) (.pr .bool (.pr (.sl 3 (.int .i64)) .un))))))))⟩), (4, .v ⟨false, false, (.int .i64)⟩)]⟩ .nil)) .nil))) } }
noncomputable def i_laws_toNode : Inst := { f := 93, fn := Tryz.f93, n := 27, pds := [.rd (.pr (.int .i64) (.pr .str (.pr (.int .i64) (.pr (.int .i64) (.pr (.int .i64) (.pr .bool (.pr (.sl 3 (.int .i64)) .un)))))))], caps := [], res := [⟨true, true, (.pr (.int .i64) (.pr .str (.pr (.int .i64) (.pr (.int .i64) (.pr (.int .i64) (.pr .bool (.pr (.sl 3 (.int .i64)) .un)))))))⟩], h := { al := [], el := [], tk := [26], nn := [], ca := [(24, 16)], code := .nil } }
noncomputable def i_laws_toIntS : Inst := { f := 160, fn := Tryz.f160, n := 22, pds := [.rd (.sl 3 (.int .i64))], caps := [], res := [⟨true, true, (.sl 3 (.int .i64))⟩], h := { al := [14], el := [20], tk := [], nn := [], ca := [], code := (.two .nil (.two .nil (.join ⟨[3], [(3, .v ⟨true, true, (.sl 3 (.int .i64))⟩)]⟩ (.two .nil (.loop ⟨[3, 4], [(3, .v ⟨true, true, (.sl 3 (.int .i64))⟩), (4, .v ⟨false, false, (.int .i64)⟩)]⟩ .nil)) .nil))) } }
noncomputable def i_spec_RecentPrints : Inst := { f := 20, fn := Tryz.f20, n := 26, pds := [.rd (.pr (.int .i64) (.pr (.sl 114 (.pr .str (.pr (.int .i64) .un))) (.pr (.sl 102 (.pr (.int .i64) (.pr (.sl 126 (.pr (.int .i64) (.pr .str (.pr (.int .i64) (.pr (.int .i64) (.pr (.int .i64) (.pr .bool (.pr (.sl 3 (.int .i64)) .un)))))))) (.pr (.sl 126 (.pr (.int .i64) (.pr .str (.pr (.int .i64) (.pr (.int .i64) (.pr (.int .i64) (.pr .bool (.pr (.sl 3 (.int .i64)) .un)))))))) (.pr (.int .i64) (.pr (.int .i64) .un)))))) (.pr (.int .i64) (.pr (.int .i64) (.pr (.int .i64) (.pr (.int .i64) (.pr (.int .i64) (.pr (.int .i64) .un)))))))))], caps := [], res := [⟨true, true, (.sl 3 (.int .i64))⟩], h := { al := [], el := [], tk := [], nn := [], ca := [(7, 18)], code := (.two .nil (.two .nil (.two .nil (.join ⟨[3], [(3, .v ⟨true, true, (.sl 3 (.int .i64))⟩)]⟩ (.two .nil (.loop ⟨[3, 4], [(3, .v ⟨true, true, (.sl 3 (.int .i64))⟩), (4, .v ⟨false, false, (.int .i64)⟩)]⟩ .nil)) .nil)))) } }
noncomputable def i_spec_ShelfOk : Inst := { f := 64, fn := Tryz.f64, n := 134, pds := [.rd (.pr (.int .i64) (.pr (.sl 114 (.pr .str (.pr (.int .i64) .un))) (.pr (.sl 102 (.pr (.int .i64) (.pr (.sl 126 (.pr (.int .i64) (.pr .str (.pr (.int .i64) (.pr (.int .i64) (.pr (.int .i64) (.pr .bool (.pr (.sl 3 (.int .i64)) .un)))))))) (.pr (.sl 126 (.pr (.int .i64) (.pr .str (.pr (.int .i64) (.pr (.int .i64) (.pr (.int .i64) (.pr .bool (.pr (.sl 3 (.int .i64)) .un)))))))) (.pr (.int .i64) (.pr (.int .i64) .un)))))) (.pr (.int .i64) (.pr (.int .i64) (.pr (.int .i64) (.pr (.int .i64) (.pr (.int .i64) (.pr (.int .i64) .un)))))))))], caps := [], res := [⟨false, false, .bool⟩], h := { al := [], el := [], tk := [], nn := [], ca := [(8, 19), (13, 20), (27, 23), (33, 23), (39, 24), (45, 24), (51, 24), (57, 24), (76, 25), (83, 25), (91, 36), (99, 49), (101, 51), (109, 19), (117, 19), (133, 52)], code := (.two .nil (.two (.join ⟨[], [(59, .v ⟨false, false, .bool⟩)]⟩ .nil .nil) (.join ⟨[2], [(2, .v ⟨false, false, .bool⟩)]⟩ (.two .nil (.loop ⟨[2, 3], [(2, .v ⟨false, false, .bool⟩), (3, .v ⟨false, false, (.int .i64)⟩)]⟩ (.two .nil (.join ⟨[2], [(2, .v ⟨false, false, .bool⟩)]⟩ (.two .nil (.two (.join ⟨[], [(119, .v ⟨false, false, .bool⟩)]⟩ .nil .nil) (.two .nil (.loop ⟨[2, 5], [(2, .v ⟨false, false, .bool⟩), (5, .v ⟨false, false, (.int .i64)⟩)]⟩ .nil)))) .nil)))) .nil))) } }
noncomputable def i_spec_l01In : Inst := { f := 119, fn := Tryz.f119, n := 15, pds := [.rd (.int .i64), .rd (.int .i64), .rd (.int .i64)], caps := [], res := [⟨false, false, .bool⟩], h := { al := [], el := [], tk := [], nn := [], ca := [], code := (.two .nil (.join ⟨[6], [(6, .v ⟨false, false, .bool⟩)]⟩ .nil .nil)) } }
noncomputable def i_spec_SchemaOk : Inst := { f := 118, fn := Tryz.f118, n := 48, pds := [.rd (.sl 114 (.pr .str (.pr (.int .i64) .un)))], caps := [], res := [⟨false, false, .bool⟩], h := { al := [], el := [], tk := [], nn := [], ca := [(18, 21), (26, 19), (44, 22)], code := (.two .nil (.two .nil (.join ⟨[2], [(2, .v ⟨false, false, .bool⟩)]⟩ (.two .nil (.loop ⟨[2, 3], [(2, .v ⟨false, false, .bool⟩), (3, .v ⟨false, false, (.int .i64)⟩)]⟩ (.two .nil (.two (.join ⟨[], [(47, .v ⟨false, false, .bool⟩)]⟩ .nil .nil) .nil)))) .nil))) } }
noncomputable def i_spec_WordOk : Inst := { f := 184, fn := Tryz.f184, n := 41, pds := [.rd .str], caps := [], res := [⟨false, false, .bool⟩], h := { al := [], el := [], tk := [], nn := [], ca := [(6, 19)], code := (.two .nil (.two (.join ⟨[], [(12, .v ⟨false, false, .bool⟩)]⟩ .nil .nil) (.join ⟨[2], [(2, .v ⟨false, false, .bool⟩)]⟩ (.two .nil (.loop ⟨[2, 3], [(2, .v ⟨false, false, .bool⟩), (3, .v ⟨false, false, (.int .i64)⟩)]⟩ (.two .nil (.two (.join ⟨[], [(40, .v ⟨false, false, .bool⟩)]⟩ .nil .nil) .nil)))) .nil))) } }
noncomputable def i_spec_l01Less : Inst := { f := 185, fn := Tryz.f185, n := 37, pds := [.rd .str, .rd .str], caps := [], res := [⟨false, false, .bool⟩], h := { al := [], el := [], tk := [], nn := [], ca := [], code := (.two .nil (.join ⟨[4], [(4, .v ⟨false, false, .bool⟩)]⟩ (.two .nil (.loop ⟨[4, 5], [(4, .v ⟨false, false, .bool⟩), (5, .v ⟨false, false, (.int .i64)⟩)]⟩ (.two (.join ⟨[], [(15, .v ⟨false, false, .bool⟩)]⟩ .nil .nil) .nil))) .nil)) } }
noncomputable def i_spec_l10Version : Inst := { f := 130, fn := Tryz.f130, n := 5, pds := [.rd (.int .i64)], caps := [], res := [⟨false, false, .bool⟩], h := { al := [], el := [], tk := [], nn := [], ca := [(4, 19)], code := .nil } }
noncomputable def i_spec_l10Count : Inst := { f := 131, fn := Tryz.f131, n := 5, pds := [.rd (.int .i64)], caps := [], res := [⟨false, false, .bool⟩], h := { al := [], el := [], tk := [], nn := [], ca := [(4, 19)], code := .nil } }
noncomputable def i_spec_TypedOk : Inst := { f := 66, fn := Tryz.f66, n := 9, pds := [.rd (.sl 114 (.pr .str (.pr (.int .i64) .un))), .rd (.sl 126 (.pr (.int .i64) (.pr .str (.pr (.int .i64) (.pr (.int .i64) (.pr (.int .i64) (.pr .bool (.pr (.sl 3 (.int .i64)) .un))))))))], caps := [], res := [⟨false, false, .bool⟩], h := { al := [], el := [], tk := [], nn := [], ca := [(7, 26)], code := .nil } }
noncomputable def i_spec_WidthOf : Inst := { f := 137, fn := Tryz.f137, n := 16, pds := [.rd (.sl 114 (.pr .str (.pr (.int .i64) .un))), .rd (.sl 126 (.pr (.int .i64) (.pr .str (.pr (.int .i64) (.pr (.int .i64) (.pr (.int .i64) (.pr .bool (.pr (.sl 3 (.int .i64)) .un))))))))], caps := [], res := [⟨false, false, (.int .i64)⟩], h := { al := [], el := [], tk := [], nn := [], ca := [(6, 20), (10, 27), (15, 33)], code := (.two .nil (.two (.join ⟨[], [(12, .v ⟨false, false, .bool⟩)]⟩ .nil .nil) .nil)) } }
noncomputable def i_spec_PlanOk : Inst := { f := 136, fn := Tryz.f136, n := 31, pds := [.rd (.sl 126 (.pr (.int .i64) (.pr .str (.pr (.int .i64) (.pr (.int .i64) (.pr (.int .i64) (.pr .bool (.pr (.sl 3 (.int .i64)) .un))))))))], caps := [], res := [⟨false, false, .bool⟩], h := { al := [], el := [], tk := [], nn := [], ca := [(8, 19), (20, 28), (24, 31)], code := (.two .nil (.two .nil (.join ⟨[2], [(2, .v ⟨false, false, .bool⟩)]⟩ (.two .nil (.loop ⟨[2, 3], [(2, .v ⟨false, false, .bool⟩), (3, .v ⟨false, false, (.int .i64)⟩)]⟩ .nil)) .nil))) } }
noncomputable def i_spec_NodeOk : Inst := { f := 205, fn := Tryz.f205, n := 186, pds := [.rd (.pr (.int .i64) (.pr .str (.pr (.int .i64) (.pr (.int .i64) (.pr (.int .i64) (.pr .bool (.pr (.sl 3 (.int .i64)) .un)))))))], caps := [], res := [⟨false, false, .bool⟩], h := { al := [], el := [], tk := [], nn := [], ca := [(39, 19), (49, 21), (69, 29), (73, 19), (78, 30), (109, 29), (114, 19), (134, 29), (138, 29), (149, 29), (168, 19)], code := (.two .nil (.two (.join ⟨[], [(42, .v ⟨false, false, .bool⟩)]⟩ .nil .nil) (.join ⟨[2], [(2, .v ⟨false, false, .bool⟩)]⟩ (.two .nil (.two .nil (.two (.join ⟨[2], [(2, .v ⟨false, false, .bool⟩)]⟩ .nil .nil) (.two .nil (.two (.join ⟨[2], [(2, .v ⟨false, false, .bool⟩)]⟩ .nil .nil) (.two .nil (.two (.join ⟨[2], [(2, .v ⟨false, false, .bool⟩)]⟩ (.two .nil (.loop ⟨[2, 3], [(2, .v ⟨false, false, .bool⟩), (3, .v ⟨false, false, (.int .i64)⟩)]⟩ .nil)) (.join ⟨[2], [(2, .v ⟨false, false, .bool⟩)]⟩ .nil .nil)) (.two .nil (.two (.join ⟨[2], [(2, .v ⟨false, false, .bool⟩)]⟩ .nil .nil) (.two .nil (.two (.join ⟨[2], [(2, .v ⟨false, false, .bool⟩)]⟩ .nil .nil) (.two .nil (.two (.join ⟨[2], [(2, .v ⟨false, false, .bool⟩)]⟩ .nil .nil) (.join ⟨[], [(170, .v ⟨false, false, .bool⟩)]⟩ .nil (.two (.join ⟨[2], [(2, .v ⟨false, false, .bool⟩)]⟩ .nil .nil) .nil))))))))))))))) .nil))) } }
noncomputable def i_spec_l02Col : Inst := { f := 249, fn := Tryz.f249, n := 5, pds := [.rd (.int .i64)], caps := [], res := [⟨false, false, .bool⟩], h := { al := [], el := [], tk := [], nn := [], ca := [(4, 19)], code := .nil } }
noncomputable def i_spec_l01Number : Inst := { f := 250, fn := Tryz.f250, n := 5, pds := [.rd (.int .i64)], caps := [], res := [⟨false, false, .bool⟩], h := { al := [], el := [], tk := [], nn := [], ca := [(4, 19)], code := .nil } }
noncomputable def i_spec_l02End : Inst := { f := 206, fn := Tryz.f206, n := 51, pds := [.rd (.sl 126 (.pr (.int .i64) (.pr .str (.pr (.int .i64) (.pr (.int .i64) (.pr (.int .i64) (.pr .bool (.pr (.sl 3 (.int .i64)) .un)))))))), .rd (.int .i64), .rd (.int .i64)], caps := [], res := [⟨false, false, (.int .i64)⟩, ⟨false, false, (.int .i64)⟩], h := { al := [], el := [], tk := [], nn := [], ca := [(29, 32), (38, 31)], code := (.two .nil (.two (.join ⟨[], [(20, .v ⟨false, false, .bool⟩)]⟩ .nil .nil) (.two .nil (.two .nil (.join ⟨[6, 7, 8, 9], [(6, .v ⟨false, false, (.int .i64)⟩), (7, .v ⟨false, false, (.int .i64)⟩), (8, .v ⟨false, false, (.int .i64)⟩), (9, .v ⟨false, false, (.int .i64)⟩)]⟩ (.two .nil (.loop ⟨[6, 7, 8, 9, 10], [(6, .v ⟨false, false, (.int .i64)⟩), (7, .v ⟨false, false, (.int .i64)⟩), (8, .v ⟨false, false, (.int .i64)⟩), (9, .v ⟨false, false, (.int .i64)⟩), (10, .v ⟨false, false, (.int .i64)⟩)]⟩ (.two .nil (.join ⟨[6, 7, 8, 9], [(6, .v ⟨false, false, (.int .i64)⟩), (7, .v ⟨false, false, (.int .i64)⟩), (8, .v ⟨false, false, (.int .i64)⟩), (9, .v ⟨false, false, (.int .i64)⟩)]⟩ .nil .nil)))) .nil))))) } }
noncomputable def i_spec_ArityOf : Inst := { f := 251, fn := Tryz.f251, n := 15, pds := [.rd (.int .i64)], caps := [], res := [⟨false, false, (.int .i64)⟩], h := { al := [], el := [], tk := [], nn := [], ca := [], code := (.two .nil (.two (.two .nil (.two .nil (.two .nil (.join ⟨[], [(6, .v ⟨false, false, .bool⟩)]⟩ .nil (.two .nil (.join ⟨[], [(9, .v ⟨false, false, .bool⟩)]⟩ .nil .nil)))))) .nil)) } }
noncomputable def i_spec_l03Width : Inst := { f := 207, fn := Tryz.f207, n := 131, pds := [.rd (.sl 114 (.pr .str (.pr (.int .i64) .un))), .rd (.sl 126 (.pr (.int .i64) (.pr .str (.pr (.int .i64) (.pr (.int .i64) (.pr (.int .i64) (.pr .bool (.pr (.sl 3 (.int .i64)) .un)))))))), .rd (.int .i64)], caps := [], res := [⟨false, false, (.int .i64)⟩], h := { al := [23, 30, 61, 79, 90, 97, 103, 106, 112, 115, 121, 124, 128], el := [], tk := [], nn := [], ca := [(21, 34), (34, 33), (48, 35)], code := (.two .nil (.two .nil (.two .nil (.two .nil (.join ⟨[6, 8], [(6, .v ⟨false, false, (.int .i64)⟩), (8, .v ⟨true, true, (.sl 3 (.int .i64))⟩)]⟩ (.two .nil (.loop ⟨[6, 8, 10], [(6, .v ⟨false, false, (.int .i64)⟩), (8, .v ⟨true, true, (.sl 3 (.int .i64))⟩), (10, .v ⟨false, false, (.int .i64)⟩)]⟩ .nil)) (.join ⟨[6], [(6, .v ⟨false, false, (.int .i64)⟩)]⟩ (.two .nil (.two .nil (.two .nil (.join ⟨[], [(56, .v ⟨false, false, .bool⟩)]⟩ .nil (.two .nil (.two .nil (.two (.join ⟨[6], [(6, .v ⟨false, false, (.int .i64)⟩)]⟩ (.two .nil (.loop ⟨[6, 13], [(6, .v ⟨false, false, (.int .i64)⟩), (13, .v ⟨false, false, (.int .i64)⟩)]⟩ .nil)) .nil) (.two .nil (.two (.two (.join ⟨[], [(111, .v ⟨false, false, .bool⟩)]⟩ .nil .nil) .nil) .nil))))))))) .nil)))))) } }
noncomputable def i_spec_l02Kids : Inst := { f := 252, fn := Tryz.f252, n := 32, pds := [.rd (.sl 126 (.pr (.int .i64) (.pr .str (.pr (.int .i64) (.pr (.int .i64) (.pr (.int .i64) (.pr .bool (.pr (.sl 3 (.int .i64)) .un)))))))), .rd (.int .i64)], caps := [], res := [⟨true, true, (.sl 3 (.int .i64))⟩], h := { al := [], el := [], tk := [], nn := [], ca := [(17, 32), (28, 31)], code := (.two .nil (.two .nil (.two .nil (.join ⟨[5, 6], [(5, .v ⟨true, true, (.sl 3 (.int .i64))⟩)]⟩ (.two .nil (.loop ⟨[5, 6, 7], [(5, .v ⟨true, true, (.sl 3 (.int .i64))⟩), (6, .v ⟨false, false, (.int .i64)⟩), (7, .v ⟨false, false, (.int .i64)⟩)]⟩ .nil)) .nil)))) } }
noncomputable def i_spec_l03Find : Inst := { f := 253, fn := Tryz.f253, n := 20, pds := [.rd (.sl 114 (.pr .str (.pr (.int .i64) .un))), .rd .str], caps := [], res := [⟨false, false, (.int .i64)⟩], h := { al := [], el := [], tk := [], nn := [], ca := [], code := (.two .nil (.join ⟨[4], [(4, .v ⟨false, false, (.int .i64)⟩)]⟩ (.two .nil (.loop ⟨[4, 5], [(4, .v ⟨false, false, (.int .i64)⟩), (5, .v ⟨false, false, (.int .i64)⟩)]⟩ .nil)) .nil)) } }
noncomputable def i_spec_PrintOf : Inst := { f := 132, fn := Tryz.f132, n := 30, pds := [.rd (.sl 126 (.pr (.int .i64) (.pr .str (.pr (.int .i64) (.pr (.int .i64) (.pr (.int .i64) (.pr .bool (.pr (.sl 3 (.int .i64)) .un))))))))], caps := [], res := [⟨false, false, (.int .i64)⟩], h := { al := [15, 22], el := [], tk := [], nn := [], ca := [(9, 37)], code := (.two .nil (.two .nil (.two .nil (.two .nil (.join ⟨[5], [(5, .v ⟨false, false, (.int .i64)⟩)]⟩ (.two .nil (.loop ⟨[5, 6], [(5, .v ⟨false, false, (.int .i64)⟩), (6, .v ⟨false, false, (.int .i64)⟩)]⟩ .nil)) .nil))))) } }
noncomputable def i_spec_EncodePlan : Inst := { f := 202, fn := Tryz.f202, n := 29, pds := [.rd (.sl 126 (.pr (.int .i64) (.pr .str (.pr (.int .i64) (.pr (.int .i64) (.pr (.int .i64) (.pr .bool (.pr (.sl 3 (.int .i64)) .un))))))))], caps := [], res := [⟨true, true, (.sl 5 (.int .u8))⟩, ⟨false, false, .bool⟩], h := { al := [18, 25], el := [], tk := [], nn := [], ca := [(7, 27), (11, 38), (23, 39), (24, 41), (26, 47)], code := (.two .nil (.two .nil (.two .nil (.join ⟨[4], [(4, .v ⟨true, true, (.sl 5 (.int .u8))⟩)]⟩ (.two .nil (.loop ⟨[4, 5], [(4, .v ⟨true, true, (.sl 5 (.int .u8))⟩), (5, .v ⟨false, false, (.int .i64)⟩)]⟩ .nil)) .nil)))) } }
noncomputable def i_spec_PutNum : Inst := { f := 244, fn := Tryz.f244, n := 32, pds := [.rd (.int .i64)], caps := [], res := [⟨true, true, (.sl 5 (.int .u8))⟩], h := { al := [], el := [], tk := [], nn := [], ca := [(7, 30)], code := (.two .nil (.two .nil (.two .nil (.two .nil (.join ⟨[4], [(4, .v ⟨false, false, (.int .i64)⟩)]⟩ .nil (.join ⟨[3, 4], [(3, .v ⟨true, true, (.sl 5 (.int .u8))⟩), (4, .v ⟨false, false, (.int .i64)⟩)]⟩ (.loop ⟨[3, 4], [(3, .v ⟨true, true, (.sl 5 (.int .u8))⟩), (4, .v ⟨false, false, (.int .i64)⟩)]⟩ .nil) .nil)))))) } }
noncomputable def i_spec_PutNode : Inst := { f := 246, fn := Tryz.f246, n := 67, pds := [.rd (.pr (.int .i64) (.pr .str (.pr (.int .i64) (.pr (.int .i64) (.pr (.int .i64) (.pr .bool (.pr (.sl 3 (.int .i64)) .un)))))))], caps := [], res := [⟨false, false, (.sl 5 (.int .u8))⟩], h := { al := [14, 35], el := [], tk := [], nn := [], hs := [21, 42, 51, 58], ca := [(5, 28), (9, 38), (17, 40), (18, 41), (28, 43), (32, 44), (38, 46), (39, 41), (48, 44), (55, 44), (61, 43), (65, 44)], code := .nil } }
noncomputable def i_spec_PutWord : Inst := { f := 272, fn := Tryz.f272, n := 12, pds := [.rd .str], caps := [], res := [⟨true, true, (.sl 5 (.int .u8))⟩], h := { al := [], el := [], tk := [], nn := [], ca := [(4, 21), (8, 38), (11, 41)], code := .nil } }
noncomputable def i_spec_l01Join : Inst := { f := 245, fn := Tryz.f245, n := 23, pds := [.rd (.sl 5 (.int .u8)), .rd (.sl 5 (.int .u8))], caps := [], res := [⟨true, true, (.sl 5 (.int .u8))⟩], h := { al := [], el := [], tk := [], nn := [], ca := [(8, 42)], code := (.two .nil (.two .nil (.join ⟨[5], [(5, .v ⟨true, true, (.sl 5 (.int .u8))⟩)]⟩ (.two .nil (.loop ⟨[5, 6], [(5, .v ⟨true, true, (.sl 5 (.int .u8))⟩), (6, .v ⟨false, false, (.int .i64)⟩)]⟩ .nil)) .nil))) } }
noncomputable def i_spec_l01Bytes : Inst := { f := 271, fn := Tryz.f271, n := 20, pds := [.rd (.sl 5 (.int .u8))], caps := [], res := [⟨true, true, (.sl 5 (.int .u8))⟩], h := { al := [], el := [], tk := [], nn := [], ca := [], code := (.two .nil (.two .nil (.join ⟨[3], [(3, .v ⟨true, true, (.sl 5 (.int .u8))⟩)]⟩ (.two .nil (.loop ⟨[3, 4], [(3, .v ⟨true, true, (.sl 5 (.int .u8))⟩), (4, .v ⟨false, false, (.int .i64)⟩)]⟩ .nil)) .nil))) } }
noncomputable def i_spec_l05Flag : Inst := { f := 274, fn := Tryz.f274, n := 4, pds := [.rd .bool], caps := [], res := [⟨false, false, (.int .i64)⟩], h := { al := [], el := [], tk := [], nn := [], ca := [], code := .nil } }
noncomputable def i_spec_l05Put : Inst := { f := 273, fn := Tryz.f273, n := 20, pds := [.rd (.sl 5 (.int .u8)), .rd (.sl 3 (.int .i64))], caps := [], res := [⟨false, false, (.sl 5 (.int .u8))⟩], h := { al := [], el := [], tk := [], nn := [], hs := [18], ca := [(17, 38), (18, 45)], code := (.two .nil (.join ⟨[0], [(0, .v ⟨false, false, (.sl 5 (.int .u8))⟩)]⟩ (.two .nil (.loop ⟨[0, 5], [(0, .v ⟨false, false, (.sl 5 (.int .u8))⟩), (5, .v ⟨false, false, (.int .i64)⟩)]⟩ .nil)) .nil)) } }
noncomputable def i_spec_l01Joinx1 : Inst := { f := 245, fn := Tryz.f245, n := 23, pds := [.rd (.sl 5 (.int .u8)), .rd (.sl 5 (.int .u8))], caps := [], res := [⟨false, false, (.sl 5 (.int .u8))⟩], h := { al := [], el := [], tk := [], nn := [], ca := [(8, 42)], code := (.two .nil (.two .nil (.join ⟨[5], [(5, .v ⟨true, true, (.sl 5 (.int .u8))⟩)]⟩ (.two .nil (.loop ⟨[5, 6], [(5, .v ⟨true, true, (.sl 5 (.int .u8))⟩), (6, .v ⟨false, false, (.int .i64)⟩)]⟩ .nil)) .nil))) } }
noncomputable def i_spec_PutNums : Inst := { f := 275, fn := Tryz.f275, n := 31, pds := [.rd (.sl 3 (.int .i64))], caps := [], res := [⟨true, true, (.sl 5 (.int .u8))⟩], h := { al := [23], el := [], tk := [], nn := [], ca := [(10, 38), (21, 30), (28, 38), (29, 41)], code := (.two .nil (.two .nil (.two .nil (.join ⟨[2, 3], [(2, .v ⟨true, true, (.sl 5 (.int .u8))⟩), (3, .v ⟨true, true, (.sl 5 (.int .u8))⟩)]⟩ (.two .nil (.loop ⟨[2, 3, 4], [(2, .v ⟨true, true, (.sl 5 (.int .u8))⟩), (3, .v ⟨true, true, (.sl 5 (.int .u8))⟩), (4, .v ⟨false, false, (.int .i64)⟩)]⟩ .nil)) .nil)))) } }
noncomputable def i_spec_Frame : Inst := { f := 247, fn := Tryz.f247, n := 21, pds := [.rd (.sl 5 (.int .u8))], caps := [], res := [⟨true, true, (.sl 5 (.int .u8))⟩, ⟨false, false, .bool⟩], h := { al := [14], el := [], tk := [], nn := [], ca := [(12, 38), (13, 41), (16, 41), (18, 48), (19, 38), (20, 41)], code := .nil } }
noncomputable def i_spec_CheckOf : Inst := { f := 276, fn := Tryz.f276, n := 21, pds := [.rd (.sl 5 (.int .u8))], caps := [], res := [⟨false, false, (.int .i64)⟩], h := { al := [], el := [], tk := [], nn := [], ca := [], code := (.two .nil (.two .nil (.join ⟨[3], [(3, .v ⟨false, false, (.int .i64)⟩)]⟩ (.two .nil (.loop ⟨[3, 4], [(3, .v ⟨false, false, (.int .i64)⟩), (4, .v ⟨false, false, (.int .i64)⟩)]⟩ .nil)) .nil))) } }
noncomputable def i_spec_SlotsOf : Inst := { f := 134, fn := Tryz.f134, n := 45, pds := [.rd (.sl 126 (.pr (.int .i64) (.pr .str (.pr (.int .i64) (.pr (.int .i64) (.pr (.int .i64) (.pr .bool (.pr (.sl 3 (.int .i64)) .un))))))))], caps := [], res := [⟨true, true, (.sl 3 (.int .i64))⟩], h := { al := [35], el := [], tk := [], nn := [], ca := [(8, 27), (37, 50)], code := (.two .nil (.two .nil (.two .nil (.join ⟨[3], [(3, .v ⟨true, true, (.sl 3 (.int .i64))⟩)]⟩ (.two .nil (.loop ⟨[3, 4], [(3, .v ⟨true, true, (.sl 3 (.int .i64))⟩), (4, .v ⟨false, false, (.int .i64)⟩)]⟩ (.two .nil (.join ⟨[3], [(3, .v ⟨true, true, (.sl 3 (.int .i64))⟩)]⟩ (.two .nil (.loop ⟨[3, 5], [(3, .v ⟨true, true, (.sl 3 (.int .i64))⟩), (5, .v ⟨false, false, (.int .i64)⟩)]⟩ (.two .nil (.join ⟨[3], [(3, .v ⟨true, true, (.sl 3 (.int .i64))⟩)]⟩ (.join ⟨[], [(39, .v ⟨false, false, .bool⟩)]⟩ .nil .nil) .nil)))) .nil)))) .nil)))) } }
noncomputable def i_spec_l01Has : Inst := { f := 203, fn := Tryz.f203, n := 18, pds := [.rd (.sl 3 (.int .i64)), .rd (.int .i64)], caps := [], res := [⟨false, false, .bool⟩], h := { al := [], el := [], tk := [], nn := [], ca := [], code := (.two .nil (.join ⟨[4], [(4, .v ⟨false, false, .bool⟩)]⟩ (.two .nil (.loop ⟨[4, 5], [(4, .v ⟨false, false, .bool⟩), (5, .v ⟨false, false, (.int .i64)⟩)]⟩ .nil)) .nil)) } }
noncomputable def i_spec_SlotsOk : Inst := { f := 133, fn := Tryz.f133, n := 29, pds := [.rd (.sl 126 (.pr (.int .i64) (.pr .str (.pr (.int .i64) (.pr (.int .i64) (.pr (.int .i64) (.pr .bool (.pr (.sl 3 (.int .i64)) .un)))))))), .rd (.int .i64)], caps := [], res := [⟨false, false, .bool⟩], h := { al := [], el := [], tk := [], nn := [], ca := [(7, 27)], code := (.two .nil (.two .nil (.join ⟨[4], [(4, .v ⟨false, false, .bool⟩)]⟩ (.two .nil (.loop ⟨[4, 5], [(4, .v ⟨false, false, .bool⟩), (5, .v ⟨false, false, (.int .i64)⟩)]⟩ (.two .nil (.two (.join ⟨[], [(28, .v ⟨false, false, .bool⟩)]⟩ .nil .nil) .nil)))) .nil))) } }
noncomputable def i_spec_SamePlan : Inst := { f := 135, fn := Tryz.f135, n := 27, pds := [.rd (.sl 126 (.pr (.int .i64) (.pr .str (.pr (.int .i64) (.pr (.int .i64) (.pr (.int .i64) (.pr .bool (.pr (.sl 3 (.int .i64)) .un)))))))), .rd (.sl 126 (.pr (.int .i64) (.pr .str (.pr (.int .i64) (.pr (.int .i64) (.pr (.int .i64) (.pr .bool (.pr (.sl 3 (.int .i64)) .un))))))))], caps := [], res := [⟨false, false, .bool⟩], h := { al := [], el := [], tk := [], nn := [], ca := [(25, 53)], code := (.two .nil (.two .nil (.join ⟨[4], [(4, .v ⟨false, false, .bool⟩)]⟩ (.two .nil (.loop ⟨[4, 5], [(4, .v ⟨false, false, .bool⟩), (5, .v ⟨false, false, (.int .i64)⟩)]⟩ .nil)) .nil))) } }
noncomputable def i_spec_l02SameNode : Inst := { f := 204, fn := Tryz.f204, n := 52, pds := [.rd (.pr (.int .i64) (.pr .str (.pr (.int .i64) (.pr (.int .i64) (.pr (.int .i64) (.pr .bool (.pr (.sl 3 (.int .i64)) .un))))))), .rd (.pr (.int .i64) (.pr .str (.pr (.int .i64) (.pr (.int .i64) (.pr (.int .i64) (.pr .bool (.pr (.sl 3 (.int .i64)) .un)))))))], caps := [], res := [⟨false, false, .bool⟩], h := { al := [], el := [], tk := [], nn := [], ca := [(50, 54)], code := (.two .nil (.join ⟨[4], [(4, .v ⟨false, false, .bool⟩)]⟩ .nil .nil)) } }
noncomputable def i_spec_l02SameInts : Inst := { f := 248, fn := Tryz.f248, n := 26, pds := [.rd (.sl 3 (.int .i64)), .rd (.sl 3 (.int .i64))], caps := [], res := [⟨false, false, .bool⟩], h := { al := [], el := [], tk := [], nn := [], ca := [], code := (.two .nil (.two .nil (.join ⟨[4], [(4, .v ⟨false, false, .bool⟩)]⟩ (.two .nil (.loop ⟨[4, 5], [(4, .v ⟨false, false, .bool⟩), (5, .v ⟨false, false, (.int .i64)⟩)]⟩ .nil)) .nil))) } }
noncomputable def i_impl_RecentPrints : Inst := { f := 21, fn := Tryz.f21, n := 23, pds := [.rd (.pr (.int .i64) (.pr (.sl 114 (.pr .str (.pr (.int .i64) .un))) (.pr (.sl 102 (.pr (.int .i64) (.pr (.sl 126 (.pr (.int .i64) (.pr .str (.pr (.int .i64) (.pr (.int .i64) (.pr (.int .i64) (.pr .bool (.pr (.sl 3 (.int .i64)) .un)))))))) (.pr (.sl 126 (.pr (.int .i64) (.pr .str (.pr (.int .i64) (.pr (.int .i64) (.pr (.int .i64) (.pr .bool (.pr (.sl 3 (.int .i64)) .un)))))))) (.pr (.int .i64) (.pr (.int .i64) .un)))))) (.pr (.int .i64) (.pr (.int .i64) (.pr (.int .i64) (.pr (.int .i64) (.pr (.int .i64) (.pr (.int .i64) .un)))))))))], caps := [], res := [⟨true, true, (.sl 3 (.int .i64))⟩], h := { al := [], el := [], tk := [], nn := [], ca := [(7, 56)], code := (.two .nil (.two .nil (.two .nil (.join ⟨[3], [(3, .v ⟨true, true, (.sl 3 (.int .i64))⟩)]⟩ (.two .nil (.loop ⟨[3, 12], [(3, .v ⟨true, true, (.sl 3 (.int .i64))⟩), (12, .v ⟨false, false, (.int .i64)⟩)]⟩ .nil)) .nil)))) } }
noncomputable def i_impl_ShelfOk : Inst := { f := 79, fn := Tryz.f79, n := 127, pds := [.rd (.pr (.int .i64) (.pr (.sl 114 (.pr .str (.pr (.int .i64) .un))) (.pr (.sl 102 (.pr (.int .i64) (.pr (.sl 126 (.pr (.int .i64) (.pr .str (.pr (.int .i64) (.pr (.int .i64) (.pr (.int .i64) (.pr .bool (.pr (.sl 3 (.int .i64)) .un)))))))) (.pr (.sl 126 (.pr (.int .i64) (.pr .str (.pr (.int .i64) (.pr (.int .i64) (.pr (.int .i64) (.pr .bool (.pr (.sl 3 (.int .i64)) .un)))))))) (.pr (.int .i64) (.pr (.int .i64) .un)))))) (.pr (.int .i64) (.pr (.int .i64) (.pr (.int .i64) (.pr (.int .i64) (.pr (.int .i64) (.pr (.int .i64) .un)))))))))], caps := [], res := [⟨false, false, .bool⟩], h := { al := [], el := [], tk := [], nn := [], ca := [(11, 57), (16, 59), (30, 61), (36, 61), (54, 58), (69, 62), (76, 62), (84, 85), (92, 58), (100, 58), (107, 97), (109, 100), (124, 104)], code := (.two .nil (.two (.join ⟨[], [(38, .v ⟨false, false, .bool⟩)]⟩ .nil .nil) (.join ⟨[2], [(2, .v ⟨false, false, .bool⟩)]⟩ (.two .nil (.loop ⟨[2, 49], [(2, .v ⟨false, false, .bool⟩), (49, .v ⟨false, false, (.int .i64)⟩)]⟩ .nil)) (.join ⟨[2], [(2, .v ⟨false, false, .bool⟩)]⟩ (.two .nil (.loop ⟨[2, 60], [(2, .v ⟨false, false, .bool⟩), (60, .v ⟨false, false, (.int .i64)⟩)]⟩ (.two .nil (.two .nil (.join ⟨[2], [(2, .v ⟨false, false, .bool⟩)]⟩ (.two .nil (.two (.join ⟨[], [(102, .v ⟨false, false, .bool⟩)]⟩ .nil .nil) (.two .nil (.two .nil (.loop ⟨[2, 116], [(2, .v ⟨false, false, .bool⟩), (116, .v ⟨false, false, (.int .i64)⟩)]⟩ .nil))))) .nil))))) .nil)))) } }
noncomputable def i_impl_isCap : Inst := { f := 147, fn := Tryz.f147, n := 5, pds := [.rd (.int .i64)], caps := [], res := [⟨false, false, .bool⟩], h := { al := [], el := [], tk := [], nn := [], ca := [(4, 58)], code := .nil } }
noncomputable def i_impl_in : Inst := { f := 144, fn := Tryz.f144, n := 15, pds := [.rd (.int .i64), .rd (.int .i64), .rd (.int .i64)], caps := [], res := [⟨false, false, .bool⟩], h := { al := [], el := [], tk := [], nn := [], ca := [], code := (.two .nil (.join ⟨[6], [(6, .v ⟨false, false, .bool⟩)]⟩ .nil .nil)) } }
noncomputable def i_impl_SchemaOk : Inst := { f := 123, fn := Tryz.f123, n := 41, pds := [.rd (.sl 114 (.pr .str (.pr (.int .i64) .un)))], caps := [], res := [⟨false, false, .bool⟩], h := { al := [], el := [], tk := [], nn := [], ca := [(14, 60), (19, 58)], code := (.two .nil (.join ⟨[2], [(2, .v ⟨false, false, .bool⟩)]⟩ (.two .nil (.loop ⟨[2, 7], [(2, .v ⟨false, false, .bool⟩), (7, .v ⟨false, false, (.int .i64)⟩)]⟩ (.two .nil (.two .nil (.two (.two .nil (.join ⟨[], [(36, .v ⟨false, false, .bool⟩)]⟩ .nil .nil)) .nil))))) .nil)) } }
noncomputable def i_impl_WordOk : Inst := { f := 191, fn := Tryz.f191, n := 38, pds := [.rd .str], caps := [], res := [⟨false, false, .bool⟩], h := { al := [], el := [], tk := [], nn := [], ca := [(37, 58)], code := (.two .nil (.join ⟨[2], [(2, .v ⟨false, false, .bool⟩)]⟩ (.two .nil (.loop ⟨[2, 8], [(2, .v ⟨false, false, .bool⟩), (8, .v ⟨false, false, (.int .i64)⟩)]⟩ (.two .nil (.two .nil (.two (.two .nil (.two .nil (.join ⟨[], [(5, .v ⟨false, false, .bool⟩)]⟩ .nil (.join ⟨[], [(33, .v ⟨false, false, .bool⟩)]⟩ .nil .nil)))) .nil))))) .nil)) } }
noncomputable def i_impl_isVersion : Inst := { f := 148, fn := Tryz.f148, n := 5, pds := [.rd (.int .i64)], caps := [], res := [⟨false, false, .bool⟩], h := { al := [], el := [], tk := [], nn := [], ca := [(4, 58)], code := .nil } }
noncomputable def i_impl_TypedOk : Inst := { f := 96, fn := Tryz.f96, n := 9, pds := [.rd (.sl 114 (.pr .str (.pr (.int .i64) .un))), .rd (.sl 126 (.pr (.int .i64) (.pr .str (.pr (.int .i64) (.pr (.int .i64) (.pr (.int .i64) (.pr .bool (.pr (.sl 3 (.int .i64)) .un))))))))], caps := [], res := [⟨false, false, .bool⟩], h := { al := [], el := [], tk := [], nn := [], ca := [(7, 63)], code := .nil } }
noncomputable def i_impl_WidthOf : Inst := { f := 61, fn := Tryz.f61, n := 16, pds := [.rd (.sl 114 (.pr .str (.pr (.int .i64) .un))), .rd (.sl 126 (.pr (.int .i64) (.pr .str (.pr (.int .i64) (.pr (.int .i64) (.pr (.int .i64) (.pr .bool (.pr (.sl 3 (.int .i64)) .un))))))))], caps := [], res := [⟨false, false, (.int .i64)⟩], h := { al := [], el := [], tk := [], nn := [], ca := [(6, 59), (10, 64), (15, 79)], code := (.two .nil (.two (.join ⟨[], [(12, .v ⟨false, false, .bool⟩)]⟩ .nil .nil) .nil)) } }
noncomputable def i_impl_PlanOk : Inst := { f := 121, fn := Tryz.f121, n := 16, pds := [.rd (.sl 126 (.pr (.int .i64) (.pr .str (.pr (.int .i64) (.pr (.int .i64) (.pr (.int .i64) (.pr .bool (.pr (.sl 3 (.int .i64)) .un))))))))], caps := [], res := [⟨false, false, .bool⟩], h := { al := [], el := [], tk := [], nn := [], ca := [(5, 58), (9, 65), (12, 77)], code := (.two .nil (.two (.join ⟨[], [(10, .v ⟨false, false, .bool⟩)]⟩ .nil .nil) .nil)) } }
noncomputable def i_slices_ContainsFunc_LimplNode_impl_PlanOk_1 : Inst := { f := 186, fn := Tryz.f186, n := 9, pds := [.rd (.sl 126 (.pr (.int .i64) (.pr .str (.pr (.int .i64) (.pr (.int .i64) (.pr (.int .i64) (.pr .bool (.pr (.sl 3 (.int .i64)) .un)))))))), .fn 187 []], caps := [], res := [⟨false, false, .bool⟩], h := { al := [], el := [], tk := [], nn := [], ca := [(7, 66)], code := .nil } }
noncomputable def i_slices_IndexFunc_LimplNode_impl_PlanOk_1 : Inst := { f := 233, fn := Tryz.f233, n := 19, pds := [.rd (.sl 126 (.pr (.int .i64) (.pr .str (.pr (.int .i64) (.pr (.int .i64) (.pr (.int .i64) (.pr .bool (.pr (.sl 3 (.int .i64)) .un)))))))), .fn 187 []], caps := [], res := [⟨false, false, (.int .i64)⟩], h := { al := [], el := [], tk := [], nn := [], ca := [(16, 67)], code := (.two .nil (.join ⟨[4], [(4, .v ⟨false, false, (.int .i64)⟩)]⟩ (.two .nil (.loop ⟨[4, 8], [(4, .v ⟨false, false, (.int .i64)⟩), (8, .v ⟨false, false, (.int .i64)⟩)]⟩ .nil)) .nil)) } }
noncomputable def i_impl_PlanOk_1 : Inst := { f := 187, fn := Tryz.f187, n := 6, pds := [.rd (.pr (.int .i64) (.pr .str (.pr (.int .i64) (.pr (.int .i64) (.pr (.int .i64) (.pr .bool (.pr (.sl 3 (.int .i64)) .un)))))))], caps := [], res := [⟨false, false, .bool⟩], h := { al := [], el := [], tk := [], nn := [], ca := [(4, 68)], code := .nil } }
noncomputable def i_impl_NodeOk : Inst := { f := 188, fn := Tryz.f188, n := 116, pds := [.rd (.pr (.int .i64) (.pr .str (.pr (.int .i64) (.pr (.int .i64) (.pr (.int .i64) (.pr .bool (.pr (.sl 3 (.int .i64)) .un)))))))], caps := [], res := [⟨false, false, .bool⟩], h := { al := [], el := [], tk := [], nn := [], ca := [(13, 60), (19, 69), (23, 58), (29, 71), (53, 70), (64, 58), (68, 72), (76, 69), (80, 69), (88, 69), (94, 58), (102, 70), (114, 75)], code := (.two .nil (.two .nil (.two .nil (.two .nil (.join ⟨[3, 4, 6], [(3, .bx 126 [⟨false, false, (.int .i64)⟩, ⟨false, false, .str⟩, ⟨false, false, (.int .i64)⟩, ⟨false, false, (.int .i64)⟩, ⟨false, false, (.int .i64)⟩, ⟨false, false, .bool⟩, ⟨false, false, (.sl 3 (.int .i64))⟩]), (4, .v ⟨false, false, .bool⟩)]⟩ (.two .nil (.two .nil (.two .nil (.two .nil (.two (.join ⟨[4], [(4, .v ⟨false, false, .bool⟩)]⟩ .nil (.join ⟨[4], [(4, .v ⟨false, false, .bool⟩)]⟩ .nil .nil)) (.two .nil (.two (.join ⟨[4], [(4, .v ⟨false, false, .bool⟩)]⟩ .nil .nil) (.two .nil (.two (.join ⟨[4], [(4, .v ⟨false, false, .bool⟩)]⟩ .nil .nil) (.two .nil (.two .nil (.two .nil (.two (.join ⟨[4], [(4, .v ⟨false, false, .bool⟩)]⟩ .nil .nil) (.join ⟨[], [(107, .v ⟨false, false, .bool⟩)]⟩ .nil .nil)))))))))))))) (.join ⟨[2], [(2, .v ⟨false, false, .bool⟩)]⟩ .nil .nil)))))) } }
noncomputable def i_impl_isCol : Inst := { f := 234, fn := Tryz.f234, n := 5, pds := [.rd (.int .i64)], caps := [], res := [⟨false, false, .bool⟩], h := { al := [], el := [], tk := [], nn := [], ca := [(4, 58)], code := .nil } }
noncomputable def i_impl_isSlot : Inst := { f := 235, fn := Tryz.f235, n := 5, pds := [.rd (.int .i64)], caps := [], res := [⟨false, false, .bool⟩], h := { al := [], el := [], tk := [], nn := [], ca := [(4, 58)], code := .nil } }
noncomputable def i_impl_isNum : Inst := { f := 236, fn := Tryz.f236, n := 5, pds := [.rd (.int .i64)], caps := [], res := [⟨false, false, .bool⟩], h := { al := [], el := [], tk := [], nn := [], ca := [(4, 58)], code := .nil } }
noncomputable def i_slices_ContainsFunc_Lint_impl_NodeOk_1 : Inst := { f := 222, fn := Tryz.f222, n := 9, pds := [.rd (.sl 3 (.int .i64)), .fn 237 []], caps := [], res := [⟨false, false, .bool⟩], h := { al := [], el := [], tk := [], nn := [], ca := [(7, 73)], code := .nil } }
noncomputable def i_slices_IndexFunc_Lint_impl_NodeOk_1 : Inst := { f := 263, fn := Tryz.f263, n := 19, pds := [.rd (.sl 3 (.int .i64)), .fn 237 []], caps := [], res := [⟨false, false, (.int .i64)⟩], h := { al := [], el := [], tk := [], nn := [], ca := [(16, 74)], code := (.two .nil (.join ⟨[4], [(4, .v ⟨false, false, (.int .i64)⟩)]⟩ (.two .nil (.loop ⟨[4, 8], [(4, .v ⟨false, false, (.int .i64)⟩), (8, .v ⟨false, false, (.int .i64)⟩)]⟩ .nil)) .nil)) } }
noncomputable def i_impl_NodeOk_1 : Inst := { f := 237, fn := Tryz.f237, n := 6, pds := [.rd (.int .i64)], caps := [], res := [⟨false, false, .bool⟩], h := { al := [], el := [], tk := [], nn := [], ca := [(4, 69)], code := .nil } }
noncomputable def i_impl_sameNode : Inst := { f := 141, fn := Tryz.f141, n := 52, pds := [.rd (.pr (.int .i64) (.pr .str (.pr (.int .i64) (.pr (.int .i64) (.pr (.int .i64) (.pr .bool (.pr (.sl 3 (.int .i64)) .un))))))), .rd (.pr (.int .i64) (.pr .str (.pr (.int .i64) (.pr (.int .i64) (.pr (.int .i64) (.pr .bool (.pr (.sl 3 (.int .i64)) .un)))))))], caps := [], res := [⟨false, false, .bool⟩], h := { al := [], el := [], tk := [], nn := [], ca := [(50, 76)], code := (.two .nil (.join ⟨[4], [(4, .v ⟨false, false, .bool⟩)]⟩ .nil .nil)) } }
noncomputable def i_slices_Equal_Lint : Inst := { f := 183, fn := Tryz.f183, n := 26, pds := [.rd (.sl 3 (.int .i64)), .rd (.sl 3 (.int .i64))], caps := [], res := [⟨false, false, .bool⟩], h := { al := [], el := [], tk := [], nn := [], ca := [], code := (.two .nil (.two .nil (.join ⟨[4], [(4, .v ⟨false, false, .bool⟩)]⟩ (.two .nil (.loop ⟨[4, 13], [(4, .v ⟨false, false, .bool⟩), (13, .v ⟨false, false, (.int .i64)⟩)]⟩ .nil)) .nil))) } }
noncomputable def i_impl_end : Inst := { f := 189, fn := Tryz.f189, n := 35, pds := [.rd (.sl 126 (.pr (.int .i64) (.pr .str (.pr (.int .i64) (.pr (.int .i64) (.pr (.int .i64) (.pr .bool (.pr (.sl 3 (.int .i64)) .un)))))))), .rd (.int .i64), .rd (.int .i64)], caps := [], res := [⟨false, false, (.int .i64)⟩], h := { al := [], el := [], tk := [], nn := [], ca := [(23, 78), (30, 77)], code := (.two .nil (.two (.join ⟨[], [(15, .v ⟨false, false, .bool⟩)]⟩ .nil .nil) (.two .nil (.join ⟨[6, 7], [(6, .v ⟨false, false, (.int .i64)⟩), (7, .v ⟨false, false, (.int .i64)⟩)]⟩ (.two .nil (.loop ⟨[6, 7, 24], [(6, .v ⟨false, false, (.int .i64)⟩), (7, .v ⟨false, false, (.int .i64)⟩), (24, .v ⟨false, false, (.int .i64)⟩)]⟩ .nil)) .nil)))) } }
noncomputable def i_impl_ArityOf : Inst := { f := 238, fn := Tryz.f238, n := 15, pds := [.rd (.int .i64)], caps := [], res := [⟨false, false, (.int .i64)⟩], h := { al := [], el := [], tk := [], nn := [], ca := [], code := (.two .nil (.two (.two .nil (.two .nil (.two .nil (.join ⟨[], [(6, .v ⟨false, false, .bool⟩)]⟩ .nil (.two .nil (.join ⟨[], [(9, .v ⟨false, false, .bool⟩)]⟩ .nil .nil)))))) .nil)) } }
noncomputable def i_impl_width : Inst := { f := 124, fn := Tryz.f124, n := 117, pds := [.rd (.sl 114 (.pr .str (.pr (.int .i64) .un))), .rd (.sl 126 (.pr (.int .i64) (.pr .str (.pr (.int .i64) (.pr (.int .i64) (.pr (.int .i64) (.pr .bool (.pr (.sl 3 (.int .i64)) .un)))))))), .rd (.int .i64)], caps := [], res := [⟨false, false, (.int .i64)⟩], h := { al := [56, 65, 76, 83, 89, 92, 98, 101, 107, 110, 114], el := [], tk := [], nn := [], ca := [(15, 80), (24, 79), (43, 81), (64, 84)], code := (.two .nil (.two .nil (.join ⟨[6, 7], [(6, .v ⟨false, false, (.int .i64)⟩), (7, .v ⟨true, true, (.sl 3 (.int .i64))⟩)]⟩ (.two .nil (.loop ⟨[6, 7, 17], [(6, .v ⟨false, false, (.int .i64)⟩), (7, .v ⟨true, true, (.sl 3 (.int .i64))⟩), (17, .v ⟨false, false, (.int .i64)⟩)]⟩ .nil)) (.two .nil (.join ⟨[6], [(6, .v ⟨false, false, (.int .i64)⟩)]⟩ (.two .nil (.two .nil (.two .nil (.join ⟨[], [(51, .v ⟨false, false, .bool⟩)]⟩ .nil (.two .nil (.two .nil (.two .nil (.two .nil (.two (.two (.join ⟨[], [(97, .v ⟨false, false, .bool⟩)]⟩ .nil .nil) .nil) .nil))))))))) .nil))))) } }
noncomputable def i_impl_children : Inst := { f := 192, fn := Tryz.f192, n := 26, pds := [.rd (.sl 126 (.pr (.int .i64) (.pr .str (.pr (.int .i64) (.pr (.int .i64) (.pr (.int .i64) (.pr .bool (.pr (.sl 3 (.int .i64)) .un)))))))), .rd (.int .i64)], caps := [], res := [⟨true, true, (.sl 3 (.int .i64))⟩], h := { al := [], el := [], tk := [], nn := [], ca := [(14, 78), (23, 77)], code := (.two .nil (.two .nil (.two .nil (.join ⟨[5, 6], [(5, .v ⟨true, true, (.sl 3 (.int .i64))⟩)]⟩ (.two .nil (.loop ⟨[5, 6, 15], [(5, .v ⟨true, true, (.sl 3 (.int .i64))⟩), (6, .v ⟨false, false, (.int .i64)⟩), (15, .v ⟨false, false, (.int .i64)⟩)]⟩ .nil)) .nil)))) } }
noncomputable def i_impl_tableAt : Inst := { f := 193, fn := Tryz.f193, n := 8, pds := [.rd (.sl 114 (.pr .str (.pr (.int .i64) .un))), .rd .str], caps := [], res := [⟨false, false, (.int .i64)⟩], h := { al := [], el := [], tk := [], nn := [], ca := [(7, 82)], code := .nil } }
noncomputable def i_slices_IndexFunc_LimplTable_impl_tableAt_1 : Inst := { f := 239, fn := Tryz.f239, n := 19, pds := [.rd (.sl 114 (.pr .str (.pr (.int .i64) .un))), .fn 240 [(true, 9, [⟨false, false, .str⟩])]], caps := [], res := [⟨false, false, (.int .i64)⟩], h := { al := [], el := [], tk := [], nn := [], ca := [(16, 83)], code := (.two .nil (.join ⟨[1, 4, 19], [(4, .v ⟨false, false, (.int .i64)⟩), (19, .bx 9 [⟨false, false, .str⟩])]⟩ (.two .nil (.loop ⟨[1, 4, 8, 19], [(1, .fix (.fn 240 [19])), (4, .v ⟨false, false, (.int .i64)⟩), (8, .v ⟨false, false, (.int .i64)⟩), (19, .bx 9 [⟨false, false, .str⟩])]⟩ .nil)) .nil)) } }
noncomputable def i_impl_tableAt_1 : Inst := { f := 240, fn := Tryz.f240, n := 8, pds := [.rd (.pr .str (.pr (.int .i64) .un))], caps := [(true, 9, [⟨false, false, .str⟩])], res := [⟨false, false, .bool⟩], h := { al := [], el := [], tk := [], nn := [], ca := [], code := .nil } }
noncomputable def i_slices_Max_Lint : Inst := { f := 194, fn := Tryz.f194, n := 25, pds := [.rd (.sl 3 (.int .i64))], caps := [], res := [⟨false, false, (.int .i64)⟩], h := { al := [], el := [], tk := [], nn := [], ca := [], code := (.two .nil (.join ⟨[], []⟩ .nil (.two .nil (.join ⟨[3], [(3, .v ⟨false, false, (.int .i64)⟩)]⟩ (.two .nil (.loop ⟨[3, 4], [(3, .v ⟨false, false, (.int .i64)⟩), (4, .v ⟨false, false, (.int .i64)⟩)]⟩ .nil)) .nil)))) } }
noncomputable def i_impl_PrintOf : Inst := { f := 102, fn := Tryz.f102, n := 29, pds := [.rd (.sl 126 (.pr (.int .i64) (.pr .str (.pr (.int .i64) (.pr (.int .i64) (.pr (.int .i64) (.pr .bool (.pr (.sl 3 (.int .i64)) .un))))))))], caps := [], res := [⟨false, false, (.int .i64)⟩], h := { al := [15], el := [], tk := [], nn := [], ca := [(10, 86)], code := (.two .nil (.two .nil (.two .nil (.two .nil (.join ⟨[5], [(5, .v ⟨false, false, (.int .i64)⟩)]⟩ (.two .nil (.loop ⟨[5, 17], [(5, .v ⟨false, false, (.int .i64)⟩), (17, .v ⟨false, false, (.int .i64)⟩)]⟩ .nil)) .nil))))) } }
noncomputable def i_impl_EncodePlan : Inst := { f := 167, fn := Tryz.f167, n := 28, pds := [.rd (.sl 126 (.pr (.int .i64) (.pr .str (.pr (.int .i64) (.pr (.int .i64) (.pr (.int .i64) (.pr .bool (.pr (.sl 3 (.int .i64)) .un))))))))], caps := [], res := [⟨true, true, (.sl 5 (.int .u8))⟩, ⟨false, false, .bool⟩], h := { al := [24], el := [], tk := [], nn := [], ca := [(8, 64), (12, 87), (21, 88), (25, 93)], code := (.two .nil (.two .nil (.two .nil (.join ⟨[4], [(4, .v ⟨true, true, (.sl 5 (.int .u8))⟩)]⟩ (.two .nil (.loop ⟨[4, 15], [(4, .v ⟨true, true, (.sl 5 (.int .u8))⟩), (15, .v ⟨false, false, (.int .i64)⟩)]⟩ .nil)) .nil)))) } }
noncomputable def i_impl_PutNum : Inst := { f := 215, fn := Tryz.f215, n := 31, pds := [.rd (.int .i64)], caps := [], res := [⟨true, true, (.sl 5 (.int .u8))⟩], h := { al := [], el := [], tk := [], nn := [], ca := [(6, 71)], code := (.two .nil (.two .nil (.two .nil (.join ⟨[3], [(3, .v ⟨false, false, (.int .i64)⟩)]⟩ .nil (.two .nil (.join ⟨[3, 4], [(3, .v ⟨false, false, (.int .i64)⟩), (4, .v ⟨true, true, (.sl 5 (.int .u8))⟩)]⟩ (.loop ⟨[3, 4], [(3, .v ⟨false, false, (.int .i64)⟩), (4, .v ⟨true, true, (.sl 5 (.int .u8))⟩)]⟩ .nil) .nil)))))) } }
noncomputable def i_impl_PutNode : Inst := { f := 216, fn := Tryz.f216, n := 71, pds := [.rd (.pr (.int .i64) (.pr .str (.pr (.int .i64) (.pr (.int .i64) (.pr (.int .i64) (.pr .bool (.pr (.sl 3 (.int .i64)) .un)))))))], caps := [], res := [⟨true, true, (.sl 5 (.int .u8))⟩], h := { al := [], el := [], tk := [], nn := [], ca := [(5, 68), (9, 87), (17, 89), (28, 90), (32, 91), (39, 92), (49, 91), (57, 91), (64, 90), (68, 91)], code := .nil } }
noncomputable def i_impl_PutWord : Inst := { f := 258, fn := Tryz.f258, n := 11, pds := [.rd .str], caps := [], res := [⟨true, true, (.sl 5 (.int .u8))⟩], h := { al := [], el := [], tk := [], nn := [], ca := [(4, 60), (8, 87)], code := .nil } }
noncomputable def i_impl_flag : Inst := { f := 80, fn := Tryz.f80, n := 4, pds := [.rd .bool], caps := [], res := [⟨false, false, (.int .i64)⟩], h := { al := [], el := [], tk := [], nn := [], ca := [], code := .nil } }
noncomputable def i_impl_putAll : Inst := { f := 259, fn := Tryz.f259, n := 18, pds := [.rd (.sl 3 (.int .i64))], caps := [], res := [⟨true, true, (.sl 5 (.int .u8))⟩], h := { al := [], el := [], tk := [], nn := [], ca := [(14, 87)], code := (.two .nil (.two .nil (.join ⟨[3], [(3, .v ⟨true, true, (.sl 5 (.int .u8))⟩)]⟩ (.two .nil (.loop ⟨[3, 8], [(3, .v ⟨true, true, (.sl 5 (.int .u8))⟩), (8, .v ⟨false, false, (.int .i64)⟩)]⟩ .nil)) .nil))) } }
noncomputable def i_impl_PutNums : Inst := { f := 260, fn := Tryz.f260, n := 27, pds := [.rd (.sl 3 (.int .i64))], caps := [], res := [⟨true, true, (.sl 5 (.int .u8))⟩], h := { al := [], el := [], tk := [], nn := [], ca := [(11, 87), (19, 71), (23, 87)], code := (.two .nil (.two .nil (.two .nil (.join ⟨[2, 3], [(2, .v ⟨true, true, (.sl 5 (.int .u8))⟩), (3, .v ⟨true, true, (.sl 5 (.int .u8))⟩)]⟩ (.two .nil (.loop ⟨[2, 3, 14], [(2, .v ⟨true, true, (.sl 5 (.int .u8))⟩), (3, .v ⟨true, true, (.sl 5 (.int .u8))⟩), (14, .v ⟨false, false, (.int .i64)⟩)]⟩ .nil)) .nil)))) } }
noncomputable def i_impl_Frame : Inst := { f := 217, fn := Tryz.f217, n := 18, pds := [.rd (.sl 5 (.int .u8))], caps := [], res := [⟨true, true, (.sl 5 (.int .u8))⟩, ⟨false, false, .bool⟩], h := { al := [], el := [], tk := [], nn := [], ca := [(11, 87), (14, 94), (15, 87), (17, 95)], code := .nil } }
noncomputable def i_impl_CheckOf : Inst := { f := 262, fn := Tryz.f262, n := 20, pds := [.rd (.sl 5 (.int .u8))], caps := [], res := [⟨false, false, (.int .i64)⟩], h := { al := [], el := [], tk := [], nn := [], ca := [], code := (.two .nil (.two .nil (.join ⟨[3], [(3, .v ⟨false, false, (.int .i64)⟩)]⟩ (.two .nil (.loop ⟨[3, 8], [(3, .v ⟨false, false, (.int .i64)⟩), (8, .v ⟨false, false, (.int .i64)⟩)]⟩ .nil)) .nil))) } }
noncomputable def i_slices_Concat_Lbyte : Inst := { f := 261, fn := Tryz.f261, n := 36, pds := [.rd (.sl 74 (.sl 5 (.int .u8)))], caps := [], res := [⟨true, true, (.sl 5 (.int .u8))⟩], h := { al := [], el := [], tk := [], nn := [], ca := [(24, 96)], code := (.two .nil (.two .nil (.join ⟨[3], [(3, .v ⟨false, false, (.int .i64)⟩)]⟩ (.two .nil (.loop ⟨[3, 11], [(3, .v ⟨false, false, (.int .i64)⟩), (11, .v ⟨false, false, (.int .i64)⟩)]⟩ (.two .nil (.two .nil (.join ⟨[3], [(3, .v ⟨false, false, (.int .i64)⟩)]⟩ .nil .nil))))) (.two .nil (.join ⟨[6], [(6, .v ⟨true, true, (.sl 5 (.int .u8))⟩)]⟩ (.two .nil (.loop ⟨[6, 27], [(6, .v ⟨true, true, (.sl 5 (.int .u8))⟩), (27, .v ⟨false, false, (.int .i64)⟩)]⟩ .nil)) .nil))))) } }
noncomputable def i_slices_Grow_Lbyte : Inst := { f := 291, fn := Tryz.f291, n := 27, pds := [.ow true 5 (.int .u8), .rd (.int .i64)], caps := [], res := [⟨true, true, (.sl 5 (.int .u8))⟩], h := { al := [], el := [], tk := [25], nn := [], ca := [], code := .nil } }
noncomputable def i_impl_SlotsOf : Inst := { f := 150, fn := Tryz.f150, n := 27, pds := [.rd (.sl 126 (.pr (.int .i64) (.pr .str (.pr (.int .i64) (.pr (.int .i64) (.pr (.int .i64) (.pr .bool (.pr (.sl 3 (.int .i64)) .un))))))))], caps := [], res := [⟨true, true, (.sl 3 (.int .i64))⟩], h := { al := [23, 25], el := [], tk := [], nn := [], ca := [(7, 64), (24, 98), (26, 99)], code := (.two .nil (.two .nil (.two .nil (.join ⟨[3], [(3, .v ⟨true, true, (.sl 3 (.int .i64))⟩)]⟩ (.two .nil (.loop ⟨[3, 11], [(3, .v ⟨true, true, (.sl 3 (.int .i64))⟩), (11, .v ⟨false, false, (.int .i64)⟩)]⟩ (.two .nil (.two .nil (.join ⟨[3], [(3, .v ⟨true, true, (.sl 3 (.int .i64))⟩)]⟩ .nil .nil))))) .nil)))) } }
noncomputable def i_slices_Sort_Lint : Inst := { f := 209, fn := Tryz.f209, n := 11, pds := [.mu true true 3 (.int .i64)], caps := [], res := [], h := {} }
noncomputable def i_slices_Compact_Lint : Inst := { f := 210, fn := Tryz.f210, n := 61, pds := [.hv true 3 (.int .i64)], caps := [], res := [⟨true, true, (.sl 3 (.int .i64))⟩], h := {} }
noncomputable def i_impl_SlotsOk : Inst := { f := 149, fn := Tryz.f149, n := 13, pds := [.rd (.sl 126 (.pr (.int .i64) (.pr .str (.pr (.int .i64) (.pr (.int .i64) (.pr (.int .i64) (.pr .bool (.pr (.sl 3 (.int .i64)) .un)))))))), .rd (.int .i64)], caps := [], res := [⟨false, false, .bool⟩], h := { al := [], el := [], tk := [], nn := [], ca := [(6, 64), (10, 101)], code := (.two .nil (.join ⟨[3, 4], [(4, .v ⟨false, false, .bool⟩)]⟩ .nil .nil)) } }
noncomputable def i_slices_ContainsFunc_LimplNode_impl_SlotsOk_1 : Inst := { f := 186, fn := Tryz.f186, n := 9, pds := [.rd (.sl 126 (.pr (.int .i64) (.pr .str (.pr (.int .i64) (.pr (.int .i64) (.pr (.int .i64) (.pr .bool (.pr (.sl 3 (.int .i64)) .un)))))))), .fn 208 [(true, 3, [⟨false, false, (.int .i64)⟩])]], caps := [], res := [⟨false, false, .bool⟩], h := { al := [], el := [], tk := [], nn := [], ca := [(7, 102)], code := .nil } }
noncomputable def i_slices_IndexFunc_LimplNode_impl_SlotsOk_1 : Inst := { f := 233, fn := Tryz.f233, n := 19, pds := [.rd (.sl 126 (.pr (.int .i64) (.pr .str (.pr (.int .i64) (.pr (.int .i64) (.pr (.int .i64) (.pr .bool (.pr (.sl 3 (.int .i64)) .un)))))))), .fn 208 [(true, 3, [⟨false, false, (.int .i64)⟩])]], caps := [], res := [⟨false, false, (.int .i64)⟩], h := { al := [], el := [], tk := [], nn := [], ca := [(16, 103)], code := (.two .nil (.join ⟨[1, 4, 19], [(4, .v ⟨false, false, (.int .i64)⟩), (19, .bx 3 [⟨false, false, (.int .i64)⟩])]⟩ (.two .nil (.loop ⟨[1, 4, 8, 19], [(1, .fix (.fn 208 [19])), (4, .v ⟨false, false, (.int .i64)⟩), (8, .v ⟨false, false, (.int .i64)⟩), (19, .bx 3 [⟨false, false, (.int .i64)⟩])]⟩ .nil)) .nil)) } }
noncomputable def i_impl_SlotsOk_1 : Inst := { f := 208, fn := Tryz.f208, n := 12, pds := [.rd (.pr (.int .i64) (.pr .str (.pr (.int .i64) (.pr (.int .i64) (.pr (.int .i64) (.pr .bool (.pr (.sl 3 (.int .i64)) .un)))))))], caps := [(true, 3, [⟨false, false, (.int .i64)⟩])], res := [⟨false, false, .bool⟩], h := { al := [], el := [], tk := [], nn := [], ca := [], code := (.two .nil (.join ⟨[3], [(3, .v ⟨false, false, .bool⟩)]⟩ .nil .nil)) } }
noncomputable def i_impl_SamePlan : Inst := { f := 70, fn := Tryz.f70, n := 8, pds := [.rd (.sl 126 (.pr (.int .i64) (.pr .str (.pr (.int .i64) (.pr (.int .i64) (.pr (.int .i64) (.pr .bool (.pr (.sl 3 (.int .i64)) .un)))))))), .rd (.sl 126 (.pr (.int .i64) (.pr .str (.pr (.int .i64) (.pr (.int .i64) (.pr (.int .i64) (.pr .bool (.pr (.sl 3 (.int .i64)) .un))))))))], caps := [], res := [⟨false, false, .bool⟩], h := { al := [], el := [], tk := [], nn := [], ca := [(7, 105)], code := .nil } }
noncomputable def i_slices_EqualFunc_LimplNode_impl_sameNode : Inst := { f := 140, fn := Tryz.f140, n := 32, pds := [.rd (.sl 126 (.pr (.int .i64) (.pr .str (.pr (.int .i64) (.pr (.int .i64) (.pr (.int .i64) (.pr .bool (.pr (.sl 3 (.int .i64)) .un)))))))), .rd (.sl 126 (.pr (.int .i64) (.pr .str (.pr (.int .i64) (.pr (.int .i64) (.pr (.int .i64) (.pr .bool (.pr (.sl 3 (.int .i64)) .un)))))))), .fn 141 []], caps := [], res := [⟨false, false, .bool⟩], h := { al := [], el := [], tk := [], nn := [], ca := [(29, 75)], code := (.two .nil (.two .nil (.join ⟨[6], [(6, .v ⟨false, false, .bool⟩)]⟩ (.two .nil (.loop ⟨[6, 17], [(6, .v ⟨false, false, .bool⟩), (17, .v ⟨false, false, (.int .i64)⟩)]⟩ .nil)) .nil))) } }
noncomputable def i_laws_eqIntS : Inst := { f := 22, fn := Tryz.f22, n := 26, pds := [.rd (.sl 3 (.int .i64)), .rd (.sl 3 (.int .i64))], caps := [], res := [⟨false, false, .bool⟩], h := { al := [], el := [], tk := [], nn := [], ca := [], code := (.two .nil (.two .nil (.join ⟨[4], [(4, .v ⟨false, false, .bool⟩)]⟩ (.two .nil (.loop ⟨[4, 5], [(4, .v ⟨false, false, .bool⟩), (5, .v ⟨false, false, (.int .i64)⟩)]⟩ .nil)) .nil))) } }
noncomputable def i_laws_eqShelf : Inst := { f := 17, fn := Tryz.f17, n := 52, pds := [.rd (.pr (.int .i64) (.pr (.sl 114 (.pr .str (.pr (.int .i64) .un))) (.pr (.sl 102 (.pr (.int .i64) (.pr (.sl 126 (.pr (.int .i64) (.pr .str (.pr (.int .i64) (.pr (.int .i64) (.pr (.int .i64) (.pr .bool (.pr (.sl 3 (.int .i64)) .un)))))))) (.pr (.sl 126 (.pr (.int .i64) (.pr .str (.pr (.int .i64) (.pr (.int .i64) (.pr (.int .i64) (.pr .bool (.pr (.sl 3 (.int .i64)) .un)))))))) (.pr (.int .i64) (.pr (.int .i64) .un)))))) (.pr (.int .i64) (.pr (.int .i64) (.pr (.int .i64) (.pr (.int .i64) (.pr (.int .i64) (.pr (.int .i64) .un))))))))), .rd (.pr (.int .i64) (.pr (.sl 114 (.pr .str (.pr (.int .i64) .un))) (.pr (.sl 102 (.pr (.int .i64) (.pr (.sl 126 (.pr (.int .i64) (.pr .str (.pr (.int .i64) (.pr (.int .i64) (.pr (.int .i64) (.pr .bool (.pr (.sl 3 (.int .i64)) .un)))))))) (.pr (.sl 126 (.pr (.int .i64) (.pr .str (.pr (.int .i64) (.pr (.int .i64) (.pr (.int .i64) (.pr .bool (.pr (.sl 3 (.int .i64)) .un)))))))) (.pr (.int .i64) (.pr (.int .i64) .un)))))) (.pr (.int .i64) (.pr (.int .i64) (.pr (.int .i64) (.pr (.int .i64) (.pr (.int .i64) (.pr (.int .i64) .un)))))))))], caps := [], res := [⟨false, false, .bool⟩], h := { al := [], el := [], tk := [], nn := [], ca := [(14, 108), (20, 110)], code := .nil } }
noncomputable def i_laws_eqTableS : Inst := { f := 32, fn := Tryz.f32, n := 27, pds := [.rd (.sl 114 (.pr .str (.pr (.int .i64) .un))), .rd (.sl 114 (.pr .str (.pr (.int .i64) .un)))], caps := [], res := [⟨false, false, .bool⟩], h := { al := [], el := [], tk := [], nn := [], ca := [(25, 109)], code := (.two .nil (.two .nil (.join ⟨[4], [(4, .v ⟨false, false, .bool⟩)]⟩ (.two .nil (.loop ⟨[4, 5], [(4, .v ⟨false, false, .bool⟩), (5, .v ⟨false, false, (.int .i64)⟩)]⟩ .nil)) .nil))) } }
noncomputable def i_laws_eqTable : Inst := { f := 88, fn := Tryz.f88, n := 15, pds := [.rd (.pr .str (.pr (.int .i64) .un)), .rd (.pr .str (.pr (.int .i64) .un))], caps := [], res := [⟨false, false, .bool⟩], h := { al := [], el := [], tk := [], nn := [], ca := [], code := .nil } }
noncomputable def i_laws_eqEntryS : Inst := { f := 82, fn := Tryz.f82, n := 27, pds := [.rd (.sl 102 (.pr (.int .i64) (.pr (.sl 126 (.pr (.int .i64) (.pr .str (.pr (.int .i64) (.pr (.int .i64) (.pr (.int .i64) (.pr .bool (.pr (.sl 3 (.int .i64)) .un)))))))) (.pr (.sl 126 (.pr (.int .i64) (.pr .str (.pr (.int .i64) (.pr (.int .i64) (.pr (.int .i64) (.pr .bool (.pr (.sl 3 (.int .i64)) .un)))))))) (.pr (.int .i64) (.pr (.int .i64) .un)))))), .rd (.sl 102 (.pr (.int .i64) (.pr (.sl 126 (.pr (.int .i64) (.pr .str (.pr (.int .i64) (.pr (.int .i64) (.pr (.int .i64) (.pr .bool (.pr (.sl 3 (.int .i64)) .un)))))))) (.pr (.sl 126 (.pr (.int .i64) (.pr .str (.pr (.int .i64) (.pr (.int .i64) (.pr (.int .i64) (.pr .bool (.pr (.sl 3 (.int .i64)) .un)))))))) (.pr (.int .i64) (.pr (.int .i64) .un))))))], caps := [], res := [⟨false, false, .bool⟩], h := { al := [], el := [], tk := [], nn := [], ca := [(25, 111)], code := (.two .nil (.two .nil (.join ⟨[4], [(4, .v ⟨false, false, .bool⟩)]⟩ (.two .nil (.loop ⟨[4, 5], [(4, .v ⟨false, false, .bool⟩), (5, .v ⟨false, false, (.int .i64)⟩)]⟩ .nil)) .nil))) } }
noncomputable def i_laws_eqEntry : Inst := { f := 151, fn := Tryz.f151, n := 32, pds := [.rd (.pr (.int .i64) (.pr (.sl 126 (.pr (.int .i64) (.pr .str (.pr (.int .i64) (.pr (.int .i64) (.pr (.int .i64) (.pr .bool (.pr (.sl 3 (.int .i64)) .un)))))))) (.pr (.sl 126 (.pr (.int .i64) (.pr .str (.pr (.int .i64) (.pr (.int .i64) (.pr (.int .i64) (.pr .bool (.pr (.sl 3 (.int .i64)) .un)))))))) (.pr (.int .i64) (.pr (.int .i64) .un))))), .rd (.pr (.int .i64) (.pr (.sl 126 (.pr (.int .i64) (.pr .str (.pr (.int .i64) (.pr (.int .i64) (.pr (.int .i64) (.pr .bool (.pr (.sl 3 (.int .i64)) .un)))))))) (.pr (.sl 126 (.pr (.int .i64) (.pr .str (.pr (.int .i64) (.pr (.int .i64) (.pr (.int .i64) (.pr .bool (.pr (.sl 3 (.int .i64)) .un)))))))) (.pr (.int .i64) (.pr (.int .i64) .un)))))], caps := [], res := [⟨false, false, .bool⟩], h := { al := [], el := [], tk := [], nn := [], ca := [(14, 112), (20, 112)], code := .nil } }
noncomputable def i_laws_eqNodeS : Inst := { f := 40, fn := Tryz.f40, n := 27, pds := [.rd (.sl 126 (.pr (.int .i64) (.pr .str (.pr (.int .i64) (.pr (.int .i64) (.pr (.int .i64) (.pr .bool (.pr (.sl 3 (.int .i64)) .un)))))))), .rd (.sl 126 (.pr (.int .i64) (.pr .str (.pr (.int .i64) (.pr (.int .i64) (.pr (.int .i64) (.pr .bool (.pr (.sl 3 (.int .i64)) .un))))))))], caps := [], res := [⟨false, false, .bool⟩], h := { al := [], el := [], tk := [], nn := [], ca := [(25, 113)], code := (.two .nil (.two .nil (.join ⟨[4], [(4, .v ⟨false, false, .bool⟩)]⟩ (.two .nil (.loop ⟨[4, 5], [(4, .v ⟨false, false, .bool⟩), (5, .v ⟨false, false, (.int .i64)⟩)]⟩ .nil)) .nil))) } }
noncomputable def i_laws_eqNode : Inst := { f := 104, fn := Tryz.f104, n := 41, pds := [.rd (.pr (.int .i64) (.pr .str (.pr (.int .i64) (.pr (.int .i64) (.pr (.int .i64) (.pr .bool (.pr (.sl 3 (.int .i64)) .un))))))), .rd (.pr (.int .i64) (.pr .str (.pr (.int .i64) (.pr (.int .i64) (.pr (.int .i64) (.pr .bool (.pr (.sl 3 (.int .i64)) .un)))))))], caps := [], res := [⟨false, false, .bool⟩], h := { al := [], el := [], tk := [], nn := [], ca := [(39, 106)], code := .nil } }
noncomputable def i_laws_markShelf : Inst := { f := 23, fn := Tryz.f23, n := 14, pds := [.hs (.pr (.int .i64) (.pr (.sl 114 (.pr .str (.pr (.int .i64) .un))) (.pr (.sl 102 (.pr (.int .i64) (.pr (.sl 126 (.pr (.int .i64) (.pr .str (.pr (.int .i64) (.pr (.int .i64) (.pr (.int .i64) (.pr .bool (.pr (.sl 3 (.int .i64)) .un)))))))) (.pr (.sl 126 (.pr (.int .i64) (.pr .str (.pr (.int .i64) (.pr (.int .i64) (.pr (.int .i64) (.pr .bool (.pr (.sl 3 (.int .i64)) .un)))))))) (.pr (.int .i64) (.pr (.int .i64) .un)))))) (.pr (.int .i64) (.pr (.int .i64) (.pr (.int .i64) (.pr (.int .i64) (.pr (.int .i64) (.pr (.int .i64) .un))))))))), .rd (.int .i64)], caps := [], res := [⟨false, false, (.int .i64)⟩], h := { al := [], el := [], tk := [6, 10], nn := [], ca := [(8, 115), (12, 117)], code := .nil } }
noncomputable def i_laws_markTableS : Inst := { f := 48, fn := Tryz.f48, n := 28, pds := [.mu true true 114 (.pr .str (.pr (.int .i64) .un)), .rd (.int .i64)], caps := [], res := [⟨false, false, (.int .i64)⟩], h := { al := [], el := [16, 23], tk := [], nn := [], ca := [(15, 116)], code := (.two .nil (.join ⟨[0, 1, 28], [(1, .v ⟨false, false, (.int .i64)⟩), (28, .v ⟨true, true, (.sl 114 (.pr .str (.pr (.int .i64) .un)))⟩)]⟩ (.two .nil (.loop ⟨[0, 1, 5, 28], [(0, .fix (.eq 28)), (1, .v ⟨false, false, (.int .i64)⟩), (5, .v ⟨false, false, (.int .i64)⟩), (28, .v ⟨true, true, (.sl 114 (.pr .str (.pr (.int .i64) .un)))⟩)]⟩ .nil)) .nil)) } }
noncomputable def i_laws_markText : Inst := { f := 106, fn := Tryz.f106, n := 20, pds := [.rd (.int .i64)], caps := [], res := [⟨false, false, .str⟩], h := { al := [], el := [], tk := [], nn := [], ca := [], code := (.two .nil (.two .nil (.two .nil (.join ⟨[0, 3], [(3, .v ⟨false, false, .str⟩)]⟩ (.loop ⟨[0, 3], [(0, .v ⟨false, false, (.int .i64)⟩), (3, .v ⟨false, false, .str⟩)]⟩ .nil) .nil)))) } }
noncomputable def i_laws_markEntryS : Inst := { f := 83, fn := Tryz.f83, n := 48, pds := [.mu true true 102 (.pr (.int .i64) (.pr (.sl 126 (.pr (.int .i64) (.pr .str (.pr (.int .i64) (.pr (.int .i64) (.pr (.int .i64) (.pr .bool (.pr (.sl 3 (.int .i64)) .un)))))))) (.pr (.sl 126 (.pr (.int .i64) (.pr .str (.pr (.int .i64) (.pr (.int .i64) (.pr (.int .i64) (.pr .bool (.pr (.sl 3 (.int .i64)) .un)))))))) (.pr (.int .i64) (.pr (.int .i64) .un))))), .rd (.int .i64)], caps := [], res := [⟨false, false, (.int .i64)⟩], h := { al := [], el := [15, 21, 28, 36, 43], tk := [], nn := [23, 30], ca := [(25, 118), (32, 118)], code := (.two .nil (.join ⟨[0, 1, 48], [(1, .v ⟨false, false, (.int .i64)⟩), (48, .v ⟨true, true, (.sl 102 (.pr (.int .i64) (.pr (.sl 126 (.pr (.int .i64) (.pr .str (.pr (.int .i64) (.pr (.int .i64) (.pr (.int .i64) (.pr .bool (.pr (.sl 3 (.int .i64)) .un)))))))) (.pr (.sl 126 (.pr (.int .i64) (.pr .str (.pr (.int .i64) (.pr (.int .i64) (.pr (.int .i64) (.pr .bool (.pr (.sl 3 (.int .i64)) .un)))))))) (.pr (.int .i64) (.pr (.int .i64) .un))))))⟩)]⟩ (.two .nil (.loop ⟨[0, 1, 5, 48], [(0, .fix (.eq 48)), (1, .v ⟨false, false, (.int .i64)⟩), (5, .v ⟨false, false, (.int .i64)⟩), (48, .v ⟨true, true, (.sl 102 (.pr (.int .i64) (.pr (.sl 126 (.pr (.int .i64) (.pr .str (.pr (.int .i64) (.pr (.int .i64) (.pr (.int .i64) (.pr .bool (.pr (.sl 3 (.int .i64)) .un)))))))) (.pr (.sl 126 (.pr (.int .i64) (.pr .str (.pr (.int .i64) (.pr (.int .i64) (.pr (.int .i64) (.pr .bool (.pr (.sl 3 (.int .i64)) .un)))))))) (.pr (.int .i64) (.pr (.int .i64) .un))))))⟩)]⟩ .nil)) .nil)) } }
noncomputable def i_laws_markNodeS : Inst := { f := 42, fn := Tryz.f42, n := 65, pds := [.mu true true 126 (.pr (.int .i64) (.pr .str (.pr (.int .i64) (.pr (.int .i64) (.pr (.int .i64) (.pr .bool (.pr (.sl 3 (.int .i64)) .un))))))), .rd (.int .i64)], caps := [], res := [⟨false, false, (.int .i64)⟩], h := { al := [], el := [15, 23, 30, 37, 44, 53, 59], tk := [], nn := [61], ca := [(22, 116), (63, 119)], code := (.two .nil (.join ⟨[0, 1, 65], [(1, .v ⟨false, false, (.int .i64)⟩), (65, .v ⟨true, true, (.sl 126 (.pr (.int .i64) (.pr .str (.pr (.int .i64) (.pr (.int .i64) (.pr (.int .i64) (.pr .bool (.pr (.sl 3 (.int .i64)) .un))))))))⟩)]⟩ (.two .nil (.loop ⟨[0, 1, 5, 65], [(0, .fix (.eq 65)), (1, .v ⟨false, false, (.int .i64)⟩), (5, .v ⟨false, false, (.int .i64)⟩), (65, .v ⟨true, true, (.sl 126 (.pr (.int .i64) (.pr .str (.pr (.int .i64) (.pr (.int .i64) (.pr (.int .i64) (.pr .bool (.pr (.sl 3 (.int .i64)) .un))))))))⟩)]⟩ .nil)) .nil)) } }
noncomputable def i_laws_markIntS : Inst := { f := 24, fn := Tryz.f24, n := 19, pds := [.mu true true 3 (.int .i64), .rd (.int .i64)], caps := [], res := [⟨false, false, (.int .i64)⟩], h := { al := [], el := [15], tk := [], nn := [], ca := [], code := (.two .nil (.join ⟨[0, 1, 19], [(1, .v ⟨false, false, (.int .i64)⟩), (19, .v ⟨true, true, (.sl 3 (.int .i64))⟩)]⟩ (.two .nil (.loop ⟨[0, 1, 5, 19], [(0, .fix (.eq 19)), (1, .v ⟨false, false, (.int .i64)⟩), (5, .v ⟨false, false, (.int .i64)⟩), (19, .v ⟨true, true, (.sl 3 (.int .i64))⟩)]⟩ .nil)) .nil)) } }
noncomputable def i_laws_heldIntS : Inst := { f := 25, fn := Tryz.f25, n := 21, pds := [.rd (.sl 3 (.int .i64)), .rd (.int .i64)], caps := [], res := [⟨false, false, (.int .i64)⟩], h := { al := [], el := [], tk := [], nn := [], ca := [], code := (.two .nil (.join ⟨[1, 4], [(1, .v ⟨false, false, (.int .i64)⟩), (4, .v ⟨false, false, (.int .i64)⟩)]⟩ (.two .nil (.loop ⟨[1, 4, 5], [(1, .v ⟨false, false, (.int .i64)⟩), (4, .v ⟨false, false, (.int .i64)⟩), (5, .v ⟨false, false, (.int .i64)⟩)]⟩ .nil)) .nil)) } }
noncomputable def FTL : List Inst := [i_laws_FnExactRecentPrints, i_laws_szShelf, i_laws_szTableS, i_laws_szTable, i_laws_szEntryS, i_laws_szEntry, i_laws_szNodeS, i_laws_szNode, i_laws_szIntS, i_laws_toShelf, i_laws_toTableS, i_laws_toTable, i_laws_toEntryS, i_laws_toEntry, i_laws_toNodeS, i_laws_toNode, i_laws_toIntS, i_spec_RecentPrints, i_spec_ShelfOk, i_spec_l01In, i_spec_SchemaOk, i_spec_WordOk, i_spec_l01Less, i_spec_l10Version, i_spec_l10Count, i_spec_TypedOk, i_spec_WidthOf, i_spec_PlanOk, i_spec_NodeOk, i_spec_l02Col, i_spec_l01Number, i_spec_l02End, i_spec_ArityOf, i_spec_l03Width, i_spec_l02Kids, i_spec_l03Find, i_spec_PrintOf, i_spec_EncodePlan, i_spec_PutNum, i_spec_PutNode, i_spec_PutWord, i_spec_l01Join, i_spec_l01Bytes, i_spec_l05Flag, i_spec_l05Put, i_spec_l01Joinx1, i_spec_PutNums, i_spec_Frame, i_spec_CheckOf, i_spec_SlotsOf, i_spec_l01Has, i_spec_SlotsOk, i_spec_SamePlan, i_spec_l02SameNode, i_spec_l02SameInts, i_impl_RecentPrints, i_impl_ShelfOk, i_impl_isCap, i_impl_in, i_impl_SchemaOk, i_impl_WordOk, i_impl_isVersion, i_impl_TypedOk, i_impl_WidthOf, i_impl_PlanOk, i_slices_ContainsFunc_LimplNode_impl_PlanOk_1, i_slices_IndexFunc_LimplNode_impl_PlanOk_1, i_impl_PlanOk_1, i_impl_NodeOk, i_impl_isCol, i_impl_isSlot, i_impl_isNum, i_slices_ContainsFunc_Lint_impl_NodeOk_1, i_slices_IndexFunc_Lint_impl_NodeOk_1, i_impl_NodeOk_1, i_impl_sameNode, i_slices_Equal_Lint, i_impl_end, i_impl_ArityOf, i_impl_width, i_impl_children, i_impl_tableAt, i_slices_IndexFunc_LimplTable_impl_tableAt_1, i_impl_tableAt_1, i_slices_Max_Lint, i_impl_PrintOf, i_impl_EncodePlan, i_impl_PutNum, i_impl_PutNode, i_impl_PutWord, i_impl_flag, i_impl_putAll, i_impl_PutNums, i_impl_Frame, i_impl_CheckOf, i_slices_Concat_Lbyte, i_slices_Grow_Lbyte, i_impl_SlotsOf, i_slices_Sort_Lint, i_slices_Compact_Lint, i_impl_SlotsOk, i_slices_ContainsFunc_LimplNode_impl_SlotsOk_1, i_slices_IndexFunc_LimplNode_impl_SlotsOk_1, i_impl_SlotsOk_1, i_impl_SamePlan, i_slices_EqualFunc_LimplNode_impl_sameNode, i_laws_eqIntS, i_laws_eqShelf, i_laws_eqTableS, i_laws_eqTable, i_laws_eqEntryS, i_laws_eqEntry, i_laws_eqNodeS, i_laws_eqNode, i_laws_markShelf, i_laws_markTableS, i_laws_markText, i_laws_markEntryS, i_laws_markNodeS, i_laws_markIntS, i_laws_heldIntS]
noncomputable def FT (j : Nat) : Inst := FTL.getD j i_laws_FnExactRecentPrints
noncomputable def SP (j : Nat) : Option (InVals (FT j) → Option (Tup (outTys (FT j)))) := if h98 : j = 98 then some (h98 ▸ (show InVals (FT 98) → Option (Tup (outTys (FT 98))) from fun v => sortF v.1.1)) else if h99 : j = 99 then some (h99 ▸ (show InVals (FT 99) → Option (Tup (outTys (FT 99))) from fun v => some (compI v.1.1))) else none
def lays189_ren : Go.Shelf.Ren := ⟨fun | 125 => 255 | 128 => 286 | 129 => 287 | 189 => 209 | 215 => 267 | 216 => 283 | 257 => 254 | 294 => 277 | 295 => 278 | 296 => 279 | 297 => 280 | 298 => 281 | 299 => 282 | 300 => 284 | 301 => 285 | 328 => 294 | 329 => 295 | 330 => 296 | 331 => 297 | 332 => 298 | 343 => 302 | n => n, fun | 0 => 0 | 3 => 3 | 4 => 4 | 5 => 5 | 9 => 9 | 28 => 35 | 46 => 243 | 51 => 268 | 53 => 270 | 131 => 265 | 182 => 259 | 183 => 260 | 218 => 277 | 222 => 158 | 228 => 283 | 229 => 97 | n => n, fun n => n⟩
theorem lays189 : Go.Proofs.Lays.n189 Tryz.prog lays189_ren := {
  mixed := by kernel_rfl,
  f125 := Tryz.func255.trans (congrArg some (by kernel_rfl)),
  f128 := Tryz.func286.trans (congrArg some (by kernel_rfl)),
  f129 := Tryz.func287.trans (congrArg some (by kernel_rfl)),
  f189 := Tryz.func209.trans (congrArg some (by kernel_rfl)),
  f215 := Tryz.func267.trans (congrArg some (by kernel_rfl)),
  f216 := Tryz.func283.trans (congrArg some (by kernel_rfl)),
  f257 := Tryz.func254.trans (congrArg some (by kernel_rfl)),
  f294 := Tryz.func277.trans (congrArg some (by kernel_rfl)),
  f295 := Tryz.func278.trans (congrArg some (by kernel_rfl)),
  f296 := Tryz.func279.trans (congrArg some (by kernel_rfl)),
  f297 := Tryz.func280.trans (congrArg some (by kernel_rfl)),
  f298 := Tryz.func281.trans (congrArg some (by kernel_rfl)),
  f299 := Tryz.func282.trans (congrArg some (by kernel_rfl)),
  f300 := Tryz.func284.trans (congrArg some (by kernel_rfl)),
  f301 := Tryz.func285.trans (congrArg some (by kernel_rfl)),
  f328 := Tryz.func294.trans (congrArg some (by kernel_rfl)),
  f329 := Tryz.func295.trans (congrArg some (by kernel_rfl)),
  f330 := Tryz.func296.trans (congrArg some (by kernel_rfl)),
  f331 := Tryz.func297.trans (congrArg some (by kernel_rfl)),
  f332 := Tryz.func298.trans (congrArg some (by kernel_rfl)),
  f343 := Tryz.func302.trans (congrArg some (by kernel_rfl)),
  t0 := Tryz.underlying0,
  a0 := Tryz.isAgg0,
  z0 := Tryz.sizeOf0,
  v0 := Tryz.zeroValue0,
  t3 := Tryz.underlying3,
  a3 := Tryz.isAgg3,
  z3 := Tryz.sizeOf3,
  v3 := Tryz.zeroValue3,
  t4 := Tryz.underlying4,
  a4 := Tryz.isAgg4,
  z4 := Tryz.sizeOf4,
  v4 := Tryz.zeroValue4,
  t5 := Tryz.underlying5,
  a5 := Tryz.isAgg5,
  z5 := Tryz.sizeOf5,
  v5 := Tryz.zeroValue5,
  t9 := Tryz.underlying9,
  a9 := Tryz.isAgg9,
  z9 := Tryz.sizeOf9,
  v9 := Tryz.zeroValue9,
  t28 := Tryz.underlying35,
  a28 := Tryz.isAgg35,
  z28 := Tryz.sizeOf35,
  v28 := Tryz.zeroValue35,
  t46 := Tryz.underlying243,
  a46 := Tryz.isAgg243,
  z46 := Tryz.sizeOf243,
  v46 := Tryz.zeroValue243,
  t51 := Tryz.underlying268,
  a51 := Tryz.isAgg268,
  z51 := Tryz.sizeOf268,
  v51 := Tryz.zeroValue268,
  t53 := Tryz.underlying270,
  a53 := Tryz.isAgg270,
  z53 := Tryz.sizeOf270,
  v53 := Tryz.zeroValue270,
  t131 := Tryz.underlying265,
  a131 := Tryz.isAgg265,
  z131 := Tryz.sizeOf265,
  v131 := Tryz.zeroValue265,
  t182 := Tryz.underlying259,
  a182 := Tryz.isAgg259,
  z182 := Tryz.sizeOf259,
  v182 := Tryz.zeroValue259,
  t183 := Tryz.underlying260,
  a183 := Tryz.isAgg260,
  z183 := Tryz.sizeOf260,
  v183 := Tryz.zeroValue260,
  t218 := Tryz.underlying277,
  a218 := Tryz.isAgg277,
  z218 := Tryz.sizeOf277,
  v218 := Tryz.zeroValue277,
  t222 := Tryz.underlying158,
  a222 := Tryz.isAgg158,
  z222 := Tryz.sizeOf158,
  v222 := Tryz.zeroValue158,
  t228 := Tryz.underlying283,
  a228 := Tryz.isAgg283,
  z228 := Tryz.sizeOf283,
  v228 := Tryz.zeroValue283,
  t229 := Tryz.underlying97,
  a229 := Tryz.isAgg97,
  z229 := Tryz.sizeOf97,
  v229 := Tryz.zeroValue97 }
def lays20_ren : Go.Shelf.Ren := ⟨fun | 20 => 210 | n => n, fun | 0 => 0 | 3 => 3 | 4 => 4 | 22 => 35 | n => n, fun n => n⟩
theorem lays20 : Go.Proofs.Lays2.n20 Tryz.prog lays20_ren := {
  mixed := by kernel_rfl,
  f20 := Tryz.func210.trans (congrArg some (by kernel_rfl)),
  t0 := Tryz.underlying0,
  a0 := Tryz.isAgg0,
  z0 := Tryz.sizeOf0,
  v0 := Tryz.zeroValue0,
  t3 := Tryz.underlying3,
  a3 := Tryz.isAgg3,
  z3 := Tryz.sizeOf3,
  v3 := Tryz.zeroValue3,
  t4 := Tryz.underlying4,
  a4 := Tryz.isAgg4,
  z4 := Tryz.sizeOf4,
  v4 := Tryz.zeroValue4,
  t22 := Tryz.underlying35,
  a22 := Tryz.isAgg35,
  z22 := Tryz.sizeOf35,
  v22 := Tryz.zeroValue35,
  i3 := by kernel_rfl }
theorem sp_ok : ∀ j f, SP j = some f → ∀ v r, f v = some r → RetI Tryz.prog (FT j) v r := by
  intro j f hf v r hv
  by_cases h98 : j = 98
  · subst h98
    have hf2 : some (show InVals (FT 98) → Option (Tup (outTys (FT 98))) from fun v => sortF v.1.1) = some f := hf
    have hf3 := Option.some.inj hf2
    subst hf3
    exact retI_sort lays189 (by kernel_rfl) (by decide) hv
  by_cases h99 : j = 99
  · subst h99
    have hf2 : some (show InVals (FT 99) → Option (Tup (outTys (FT 99))) from fun v => some (compI v.1.1)) = some f := hf
    have hf3 := Option.some.inj hf2
    subst hf3
    exact retI_compact lays20 (by kernel_rfl) (by decide) hv
  unfold SP at hf
  rw [dif_neg h98, dif_neg h99] at hf
  cases hf
theorem ft_ok : FTok Tryz.prog tt FT SP := FTok.of tt_ok (by kernel_rfl) ⟨Tryz.func5, Tryz.func5, Tryz.func13, Tryz.func26, Tryz.func84, Tryz.func77, Tryz.func145, Tryz.func34, Tryz.func90, Tryz.func152, Tryz.func15, Tryz.func29, Tryz.func86, Tryz.func78, Tryz.func146, Tryz.func37, Tryz.func93, Tryz.func160, Tryz.func20, Tryz.func64, Tryz.func119, Tryz.func118, Tryz.func184, Tryz.func185, Tryz.func130, Tryz.func131, Tryz.func66, Tryz.func137, Tryz.func136, Tryz.func205, Tryz.func249, Tryz.func250, Tryz.func206, Tryz.func251, Tryz.func207, Tryz.func252, Tryz.func253, Tryz.func132, Tryz.func202, Tryz.func244, Tryz.func246, Tryz.func272, Tryz.func245, Tryz.func271, Tryz.func274, Tryz.func273, Tryz.func245, Tryz.func275, Tryz.func247, Tryz.func276, Tryz.func134, Tryz.func203, Tryz.func133, Tryz.func135, Tryz.func204, Tryz.func248, Tryz.func21, Tryz.func79, Tryz.func147, Tryz.func144, Tryz.func123, Tryz.func191, Tryz.func148, Tryz.func96, Tryz.func61, Tryz.func121, Tryz.func186, Tryz.func233, Tryz.func187, Tryz.func188, Tryz.func234, Tryz.func235, Tryz.func236, Tryz.func222, Tryz.func263, Tryz.func237, Tryz.func141, Tryz.func183, Tryz.func189, Tryz.func238, Tryz.func124, Tryz.func192, Tryz.func193, Tryz.func239, Tryz.func240, Tryz.func194, Tryz.func102, Tryz.func167, Tryz.func215, Tryz.func216, Tryz.func258, Tryz.func80, Tryz.func259, Tryz.func260, Tryz.func217, Tryz.func262, Tryz.func261, Tryz.func291, Tryz.func150, Tryz.func209, Tryz.func210, Tryz.func149, Tryz.func186, Tryz.func233, Tryz.func208, Tryz.func70, Tryz.func140, Tryz.func22, Tryz.func17, Tryz.func32, Tryz.func88, Tryz.func82, Tryz.func151, Tryz.func40, Tryz.func104, Tryz.func23, Tryz.func48, Tryz.func106, Tryz.func83, Tryz.func42, Tryz.func24, Tryz.func25, trivial⟩ (by kernel_rfl) (sp_ok)
noncomputable def F_laws_FnExactRecentPrints (a0 : SShelf) : Option Bool := callL tt FT SP 0 (show InVals (FT 0) from ((a0, ()), (())))
noncomputable def F_laws_szShelf (a0 : SShelf) (a1 : Int) : Option Int := callL tt FT SP 1 (show InVals (FT 1) from ((a0, a1, ()), (())))
noncomputable def F_laws_szTableS (a0 : List STable) (a1 : Int) : Option Int := callL tt FT SP 2 (show InVals (FT 2) from ((a0, a1, ()), (())))
noncomputable def F_laws_szTable (a0 : STable) (a1 : Int) : Option Int := callL tt FT SP 3 (show InVals (FT 3) from ((a0, a1, ()), (())))
noncomputable def F_laws_szEntryS (a0 : List SEntry) (a1 : Int) : Option Int := callL tt FT SP 4 (show InVals (FT 4) from ((a0, a1, ()), (())))
noncomputable def F_laws_szEntry (a0 : SEntry) (a1 : Int) : Option Int := callL tt FT SP 5 (show InVals (FT 5) from ((a0, a1, ()), (())))
noncomputable def F_laws_szNodeS (a0 : List SNode) (a1 : Int) : Option Int := callL tt FT SP 6 (show InVals (FT 6) from ((a0, a1, ()), (())))
noncomputable def F_laws_szNode (a0 : SNode) (a1 : Int) : Option Int := callL tt FT SP 7 (show InVals (FT 7) from ((a0, a1, ()), (())))
noncomputable def F_laws_szIntS (a0 : List Int) (a1 : Int) : Option Int := callL tt FT SP 8 (show InVals (FT 8) from ((a0, a1, ()), (())))
noncomputable def F_laws_toShelf (a0 : SShelf) : Option SShelf := callL tt FT SP 9 (show InVals (FT 9) from ((a0, ()), (())))
noncomputable def F_laws_toTableS (a0 : List STable) : Option (List STable) := callL tt FT SP 10 (show InVals (FT 10) from ((a0, ()), (())))
noncomputable def F_laws_toTable (a0 : STable) : Option STable := callL tt FT SP 11 (show InVals (FT 11) from ((a0, ()), (())))
noncomputable def F_laws_toEntryS (a0 : List SEntry) : Option (List SEntry) := callL tt FT SP 12 (show InVals (FT 12) from ((a0, ()), (())))
noncomputable def F_laws_toEntry (a0 : SEntry) : Option SEntry := callL tt FT SP 13 (show InVals (FT 13) from ((a0, ()), (())))
noncomputable def F_laws_toNodeS (a0 : List SNode) : Option (List SNode) := callL tt FT SP 14 (show InVals (FT 14) from ((a0, ()), (())))
noncomputable def F_laws_toNode (a0 : SNode) : Option SNode := callL tt FT SP 15 (show InVals (FT 15) from ((a0, ()), (())))
noncomputable def F_laws_toIntS (a0 : List Int) : Option (List Int) := callL tt FT SP 16 (show InVals (FT 16) from ((a0, ()), (())))
noncomputable def F_spec_RecentPrints (a0 : SShelf) : Option (List Int) := callL tt FT SP 17 (show InVals (FT 17) from ((a0, ()), (())))
noncomputable def F_spec_ShelfOk (a0 : SShelf) : Option Bool := callL tt FT SP 18 (show InVals (FT 18) from ((a0, ()), (())))
noncomputable def F_spec_l01In (a0 : Int) (a1 : Int) (a2 : Int) : Option Bool := callL tt FT SP 19 (show InVals (FT 19) from ((a0, a1, a2, ()), (())))
noncomputable def F_spec_SchemaOk (a0 : List STable) : Option Bool := callL tt FT SP 20 (show InVals (FT 20) from ((a0, ()), (())))
noncomputable def F_spec_WordOk (a0 : ByteArray) : Option Bool := callL tt FT SP 21 (show InVals (FT 21) from ((a0, ()), (())))
noncomputable def F_spec_l01Less (a0 : ByteArray) (a1 : ByteArray) : Option Bool := callL tt FT SP 22 (show InVals (FT 22) from ((a0, a1, ()), (())))
noncomputable def F_spec_l10Version (a0 : Int) : Option Bool := callL tt FT SP 23 (show InVals (FT 23) from ((a0, ()), (())))
noncomputable def F_spec_l10Count (a0 : Int) : Option Bool := callL tt FT SP 24 (show InVals (FT 24) from ((a0, ()), (())))
noncomputable def F_spec_TypedOk (a0 : List STable) (a1 : List SNode) : Option Bool := callL tt FT SP 25 (show InVals (FT 25) from ((a0, a1, ()), (())))
noncomputable def F_spec_WidthOf (a0 : List STable) (a1 : List SNode) : Option Int := callL tt FT SP 26 (show InVals (FT 26) from ((a0, a1, ()), (())))
noncomputable def F_spec_PlanOk (a0 : List SNode) : Option Bool := callL tt FT SP 27 (show InVals (FT 27) from ((a0, ()), (())))
noncomputable def F_spec_NodeOk (a0 : SNode) : Option Bool := callL tt FT SP 28 (show InVals (FT 28) from ((a0, ()), (())))
noncomputable def F_spec_l02Col (a0 : Int) : Option Bool := callL tt FT SP 29 (show InVals (FT 29) from ((a0, ()), (())))
noncomputable def F_spec_l01Number (a0 : Int) : Option Bool := callL tt FT SP 30 (show InVals (FT 30) from ((a0, ()), (())))
noncomputable def F_spec_l02End (a0 : List SNode) (a1 : Int) (a2 : Int) : Option (Int × Int) := callL tt FT SP 31 (show InVals (FT 31) from ((a0, a1, a2, ()), (())))
noncomputable def F_spec_ArityOf (a0 : Int) : Option Int := callL tt FT SP 32 (show InVals (FT 32) from ((a0, ()), (())))
noncomputable def F_spec_l03Width (a0 : List STable) (a1 : List SNode) (a2 : Int) : Option Int := callL tt FT SP 33 (show InVals (FT 33) from ((a0, a1, a2, ()), (())))
noncomputable def F_spec_l02Kids (a0 : List SNode) (a1 : Int) : Option (List Int) := callL tt FT SP 34 (show InVals (FT 34) from ((a0, a1, ()), (())))
noncomputable def F_spec_l03Find (a0 : List STable) (a1 : ByteArray) : Option Int := callL tt FT SP 35 (show InVals (FT 35) from ((a0, a1, ()), (())))
noncomputable def F_spec_PrintOf (a0 : List SNode) : Option Int := callL tt FT SP 36 (show InVals (FT 36) from ((a0, ()), (())))
noncomputable def F_spec_EncodePlan (a0 : List SNode) : Option ((List Int) × Bool) := callL tt FT SP 37 (show InVals (FT 37) from ((a0, ()), (())))
noncomputable def F_spec_PutNum (a0 : Int) : Option (List Int) := callL tt FT SP 38 (show InVals (FT 38) from ((a0, ()), (())))
noncomputable def F_spec_PutNode (a0 : SNode) : Option (List Int) := callL tt FT SP 39 (show InVals (FT 39) from ((a0, ()), (())))
noncomputable def F_spec_PutWord (a0 : ByteArray) : Option (List Int) := callL tt FT SP 40 (show InVals (FT 40) from ((a0, ()), (())))
noncomputable def F_spec_l01Join (a0 : List Int) (a1 : List Int) : Option (List Int) := callL tt FT SP 41 (show InVals (FT 41) from ((a0, a1, ()), (())))
noncomputable def F_spec_l01Bytes (a0 : List Int) : Option (List Int) := callL tt FT SP 42 (show InVals (FT 42) from ((a0, ()), (())))
noncomputable def F_spec_l05Flag (a0 : Bool) : Option Int := callL tt FT SP 43 (show InVals (FT 43) from ((a0, ()), (())))
noncomputable def F_spec_l05Put (a0 : List Int) (a1 : List Int) : Option (List Int) := callL tt FT SP 44 (show InVals (FT 44) from ((a0, a1, ()), (())))
noncomputable def F_spec_l01Joinx1 (a0 : List Int) (a1 : List Int) : Option (List Int) := callL tt FT SP 45 (show InVals (FT 45) from ((a0, a1, ()), (())))
noncomputable def F_spec_PutNums (a0 : List Int) : Option (List Int) := callL tt FT SP 46 (show InVals (FT 46) from ((a0, ()), (())))
noncomputable def F_spec_Frame (a0 : List Int) : Option ((List Int) × Bool) := callL tt FT SP 47 (show InVals (FT 47) from ((a0, ()), (())))
noncomputable def F_spec_CheckOf (a0 : List Int) : Option Int := callL tt FT SP 48 (show InVals (FT 48) from ((a0, ()), (())))
noncomputable def F_spec_SlotsOf (a0 : List SNode) : Option (List Int) := callL tt FT SP 49 (show InVals (FT 49) from ((a0, ()), (())))
noncomputable def F_spec_l01Has (a0 : List Int) (a1 : Int) : Option Bool := callL tt FT SP 50 (show InVals (FT 50) from ((a0, a1, ()), (())))
noncomputable def F_spec_SlotsOk (a0 : List SNode) (a1 : Int) : Option Bool := callL tt FT SP 51 (show InVals (FT 51) from ((a0, a1, ()), (())))
noncomputable def F_spec_SamePlan (a0 : List SNode) (a1 : List SNode) : Option Bool := callL tt FT SP 52 (show InVals (FT 52) from ((a0, a1, ()), (())))
noncomputable def F_spec_l02SameNode (a0 : SNode) (a1 : SNode) : Option Bool := callL tt FT SP 53 (show InVals (FT 53) from ((a0, a1, ()), (())))
noncomputable def F_spec_l02SameInts (a0 : List Int) (a1 : List Int) : Option Bool := callL tt FT SP 54 (show InVals (FT 54) from ((a0, a1, ()), (())))
noncomputable def F_impl_RecentPrints (a0 : SShelf) : Option (List Int) := callL tt FT SP 55 (show InVals (FT 55) from ((a0, ()), (())))
noncomputable def F_impl_ShelfOk (a0 : SShelf) : Option Bool := callL tt FT SP 56 (show InVals (FT 56) from ((a0, ()), (())))
noncomputable def F_impl_isCap (a0 : Int) : Option Bool := callL tt FT SP 57 (show InVals (FT 57) from ((a0, ()), (())))
noncomputable def F_impl_in (a0 : Int) (a1 : Int) (a2 : Int) : Option Bool := callL tt FT SP 58 (show InVals (FT 58) from ((a0, a1, a2, ()), (())))
noncomputable def F_impl_SchemaOk (a0 : List STable) : Option Bool := callL tt FT SP 59 (show InVals (FT 59) from ((a0, ()), (())))
noncomputable def F_impl_WordOk (a0 : ByteArray) : Option Bool := callL tt FT SP 60 (show InVals (FT 60) from ((a0, ()), (())))
noncomputable def F_impl_isVersion (a0 : Int) : Option Bool := callL tt FT SP 61 (show InVals (FT 61) from ((a0, ()), (())))
noncomputable def F_impl_TypedOk (a0 : List STable) (a1 : List SNode) : Option Bool := callL tt FT SP 62 (show InVals (FT 62) from ((a0, a1, ()), (())))
noncomputable def F_impl_WidthOf (a0 : List STable) (a1 : List SNode) : Option Int := callL tt FT SP 63 (show InVals (FT 63) from ((a0, a1, ()), (())))
noncomputable def F_impl_PlanOk (a0 : List SNode) : Option Bool := callL tt FT SP 64 (show InVals (FT 64) from ((a0, ()), (())))
noncomputable def F_slices_ContainsFunc_LimplNode_impl_PlanOk_1 (a0 : List SNode) : Option Bool := callL tt FT SP 65 (show InVals (FT 65) from ((a0, (()), ()), (())))
noncomputable def F_slices_IndexFunc_LimplNode_impl_PlanOk_1 (a0 : List SNode) : Option Int := callL tt FT SP 66 (show InVals (FT 66) from ((a0, (()), ()), (())))
noncomputable def F_impl_PlanOk_1 (a0 : SNode) : Option Bool := callL tt FT SP 67 (show InVals (FT 67) from ((a0, ()), (())))
noncomputable def F_impl_NodeOk (a0 : SNode) : Option Bool := callL tt FT SP 68 (show InVals (FT 68) from ((a0, ()), (())))
noncomputable def F_impl_isCol (a0 : Int) : Option Bool := callL tt FT SP 69 (show InVals (FT 69) from ((a0, ()), (())))
noncomputable def F_impl_isSlot (a0 : Int) : Option Bool := callL tt FT SP 70 (show InVals (FT 70) from ((a0, ()), (())))
noncomputable def F_impl_isNum (a0 : Int) : Option Bool := callL tt FT SP 71 (show InVals (FT 71) from ((a0, ()), (())))
noncomputable def F_slices_ContainsFunc_Lint_impl_NodeOk_1 (a0 : List Int) : Option Bool := callL tt FT SP 72 (show InVals (FT 72) from ((a0, (()), ()), (())))
noncomputable def F_slices_IndexFunc_Lint_impl_NodeOk_1 (a0 : List Int) : Option Int := callL tt FT SP 73 (show InVals (FT 73) from ((a0, (()), ()), (())))
noncomputable def F_impl_NodeOk_1 (a0 : Int) : Option Bool := callL tt FT SP 74 (show InVals (FT 74) from ((a0, ()), (())))
noncomputable def F_impl_sameNode (a0 : SNode) (a1 : SNode) : Option Bool := callL tt FT SP 75 (show InVals (FT 75) from ((a0, a1, ()), (())))
noncomputable def F_slices_Equal_Lint (a0 : List Int) (a1 : List Int) : Option Bool := callL tt FT SP 76 (show InVals (FT 76) from ((a0, a1, ()), (())))
noncomputable def F_impl_end (a0 : List SNode) (a1 : Int) (a2 : Int) : Option Int := callL tt FT SP 77 (show InVals (FT 77) from ((a0, a1, a2, ()), (())))
noncomputable def F_impl_ArityOf (a0 : Int) : Option Int := callL tt FT SP 78 (show InVals (FT 78) from ((a0, ()), (())))
noncomputable def F_impl_width (a0 : List STable) (a1 : List SNode) (a2 : Int) : Option Int := callL tt FT SP 79 (show InVals (FT 79) from ((a0, a1, a2, ()), (())))
noncomputable def F_impl_children (a0 : List SNode) (a1 : Int) : Option (List Int) := callL tt FT SP 80 (show InVals (FT 80) from ((a0, a1, ()), (())))
noncomputable def F_impl_tableAt (a0 : List STable) (a1 : ByteArray) : Option Int := callL tt FT SP 81 (show InVals (FT 81) from ((a0, a1, ()), (())))
noncomputable def F_slices_IndexFunc_LimplTable_impl_tableAt_1 (a0 : List STable) (a1x0x0 : ByteArray) : Option (Int × ByteArray) := callL tt FT SP 82 (show InVals (FT 82) from ((a0, ((a1x0x0, ()), ()), ()), (())))
noncomputable def F_impl_tableAt_1 (a0 : STable) (c0x0 : ByteArray) : Option (Bool × ByteArray) := callL tt FT SP 83 (show InVals (FT 83) from ((a0, ()), ((c0x0, ()), ())))
noncomputable def F_slices_Max_Lint (a0 : List Int) : Option Int := callL tt FT SP 84 (show InVals (FT 84) from ((a0, ()), (())))
noncomputable def F_impl_PrintOf (a0 : List SNode) : Option Int := callL tt FT SP 85 (show InVals (FT 85) from ((a0, ()), (())))
noncomputable def F_impl_EncodePlan (a0 : List SNode) : Option ((List Int) × Bool) := callL tt FT SP 86 (show InVals (FT 86) from ((a0, ()), (())))
noncomputable def F_impl_PutNum (a0 : Int) : Option (List Int) := callL tt FT SP 87 (show InVals (FT 87) from ((a0, ()), (())))
noncomputable def F_impl_PutNode (a0 : SNode) : Option (List Int) := callL tt FT SP 88 (show InVals (FT 88) from ((a0, ()), (())))
noncomputable def F_impl_PutWord (a0 : ByteArray) : Option (List Int) := callL tt FT SP 89 (show InVals (FT 89) from ((a0, ()), (())))
noncomputable def F_impl_flag (a0 : Bool) : Option Int := callL tt FT SP 90 (show InVals (FT 90) from ((a0, ()), (())))
noncomputable def F_impl_putAll (a0 : List Int) : Option (List Int) := callL tt FT SP 91 (show InVals (FT 91) from ((a0, ()), (())))
noncomputable def F_impl_PutNums (a0 : List Int) : Option (List Int) := callL tt FT SP 92 (show InVals (FT 92) from ((a0, ()), (())))
noncomputable def F_impl_Frame (a0 : List Int) : Option ((List Int) × Bool) := callL tt FT SP 93 (show InVals (FT 93) from ((a0, ()), (())))
noncomputable def F_impl_CheckOf (a0 : List Int) : Option Int := callL tt FT SP 94 (show InVals (FT 94) from ((a0, ()), (())))
noncomputable def F_slices_Concat_Lbyte (a0 : List (List Int)) : Option (List Int) := callL tt FT SP 95 (show InVals (FT 95) from ((a0, ()), (())))
noncomputable def F_slices_Grow_Lbyte (a1 : Int) : Option (List Int) := callL tt FT SP 96 (show InVals (FT 96) from (([], a1, ()), (())))
noncomputable def F_impl_SlotsOf (a0 : List SNode) : Option (List Int) := callL tt FT SP 97 (show InVals (FT 97) from ((a0, ()), (())))
noncomputable def F_slices_Sort_Lint (a0 : List Int) : Option (List Int) := callL tt FT SP 98 (show InVals (FT 98) from ((a0, ()), (())))
noncomputable def F_slices_Compact_Lint (a0 : List Int) : Option (List Int) := callL tt FT SP 99 (show InVals (FT 99) from ((a0, ()), (())))
noncomputable def F_impl_SlotsOk (a0 : List SNode) (a1 : Int) : Option Bool := callL tt FT SP 100 (show InVals (FT 100) from ((a0, a1, ()), (())))
noncomputable def F_slices_ContainsFunc_LimplNode_impl_SlotsOk_1 (a0 : List SNode) (a1x0x0 : Int) : Option (Bool × Int) := callL tt FT SP 101 (show InVals (FT 101) from ((a0, ((a1x0x0, ()), ()), ()), (())))
noncomputable def F_slices_IndexFunc_LimplNode_impl_SlotsOk_1 (a0 : List SNode) (a1x0x0 : Int) : Option (Int × Int) := callL tt FT SP 102 (show InVals (FT 102) from ((a0, ((a1x0x0, ()), ()), ()), (())))
noncomputable def F_impl_SlotsOk_1 (a0 : SNode) (c0x0 : Int) : Option (Bool × Int) := callL tt FT SP 103 (show InVals (FT 103) from ((a0, ()), ((c0x0, ()), ())))
noncomputable def F_impl_SamePlan (a0 : List SNode) (a1 : List SNode) : Option Bool := callL tt FT SP 104 (show InVals (FT 104) from ((a0, a1, ()), (())))
noncomputable def F_slices_EqualFunc_LimplNode_impl_sameNode (a0 : List SNode) (a1 : List SNode) : Option Bool := callL tt FT SP 105 (show InVals (FT 105) from ((a0, a1, (()), ()), (())))
noncomputable def F_laws_eqIntS (a0 : List Int) (a1 : List Int) : Option Bool := callL tt FT SP 106 (show InVals (FT 106) from ((a0, a1, ()), (())))
noncomputable def F_laws_eqShelf (a0 : SShelf) (a1 : SShelf) : Option Bool := callL tt FT SP 107 (show InVals (FT 107) from ((a0, a1, ()), (())))
noncomputable def F_laws_eqTableS (a0 : List STable) (a1 : List STable) : Option Bool := callL tt FT SP 108 (show InVals (FT 108) from ((a0, a1, ()), (())))
noncomputable def F_laws_eqTable (a0 : STable) (a1 : STable) : Option Bool := callL tt FT SP 109 (show InVals (FT 109) from ((a0, a1, ()), (())))
noncomputable def F_laws_eqEntryS (a0 : List SEntry) (a1 : List SEntry) : Option Bool := callL tt FT SP 110 (show InVals (FT 110) from ((a0, a1, ()), (())))
noncomputable def F_laws_eqEntry (a0 : SEntry) (a1 : SEntry) : Option Bool := callL tt FT SP 111 (show InVals (FT 111) from ((a0, a1, ()), (())))
noncomputable def F_laws_eqNodeS (a0 : List SNode) (a1 : List SNode) : Option Bool := callL tt FT SP 112 (show InVals (FT 112) from ((a0, a1, ()), (())))
noncomputable def F_laws_eqNode (a0 : SNode) (a1 : SNode) : Option Bool := callL tt FT SP 113 (show InVals (FT 113) from ((a0, a1, ()), (())))
noncomputable def F_laws_markShelf (a0 : SShelf) (a1 : Int) : Option Int := callL tt FT SP 114 (show InVals (FT 114) from ((a0, a1, ()), (())))
noncomputable def F_laws_markTableS (a0 : List STable) (a1 : Int) : Option (Int × (List STable)) := callL tt FT SP 115 (show InVals (FT 115) from ((a0, a1, ()), (())))
noncomputable def F_laws_markText (a0 : Int) : Option ByteArray := callL tt FT SP 116 (show InVals (FT 116) from ((a0, ()), (())))
noncomputable def F_laws_markEntryS (a0 : List SEntry) (a1 : Int) : Option (Int × (List SEntry)) := callL tt FT SP 117 (show InVals (FT 117) from ((a0, a1, ()), (())))
noncomputable def F_laws_markNodeS (a0 : List SNode) (a1 : Int) : Option (Int × (List SNode)) := callL tt FT SP 118 (show InVals (FT 118) from ((a0, a1, ()), (())))
noncomputable def F_laws_markIntS (a0 : List Int) (a1 : Int) : Option (Int × (List Int)) := callL tt FT SP 119 (show InVals (FT 119) from ((a0, a1, ()), (())))
noncomputable def F_laws_heldIntS (a0 : List Int) (a1 : Int) : Option Int := callL tt FT SP 120 (show InVals (FT 120) from ((a0, a1, ()), (())))
@[simp] noncomputable def J_laws_FnExactRecentPrintsx0 (a0 : SShelf) (y3 : List Int) (y5 : List Int) (v11 : Bool) : Option Bool :=
  (bif v11 then
  some false
  else (F_laws_markIntS y5 1).bind (fun y12 => (F_laws_heldIntS y12.2 1).bind (fun y13 => (bif (decide (y13 < 0)) then
  some false
  else (bif (y13 != y12.1) then
  some false
  else (F_laws_toShelf (a0.1, (a0.2.1, (a0.2.2.1, (a0.2.2.2.1, (a0.2.2.2.2.1, (a0.2.2.2.2.2.1, (a0.2.2.2.2.2.2.1, (a0.2.2.2.2.2.2.2.1, (a0.2.2.2.2.2.2.2.2.1, ())))))))))).bind (fun y14 => (F_impl_RecentPrints y14).bind (fun y15 => (F_laws_eqIntS y15 y3).bind (fun y16 => (bif (!y16) then
  some false
  else (F_laws_heldIntS y12.2 1).bind (fun y17 => (bif (decide (y17 < 0)) then
  some false
  else (bif (y17 != y12.1) then
  some false
  else some true))))))))))))
theorem U_laws_FnExactRecentPrints (a0 : SShelf) : Le ((F_laws_szShelf (a0.1, (a0.2.1, (a0.2.2.1, (a0.2.2.2.1, (a0.2.2.2.2.1, (a0.2.2.2.2.2.1, (a0.2.2.2.2.2.2.1, (a0.2.2.2.2.2.2.2.1, (a0.2.2.2.2.2.2.2.2.1, ()))))))))) 1048576).bind (fun y1 => (bif (decide (y1 < 0)) then
  some true
  else (F_laws_toShelf (a0.1, (a0.2.1, (a0.2.2.1, (a0.2.2.2.1, (a0.2.2.2.2.1, (a0.2.2.2.2.2.1, (a0.2.2.2.2.2.2.1, (a0.2.2.2.2.2.2.2.1, (a0.2.2.2.2.2.2.2.2.1, ())))))))))).bind (fun y2 => (F_spec_RecentPrints y2).bind (fun y3 => (F_laws_toShelf (a0.1, (a0.2.1, (a0.2.2.1, (a0.2.2.2.1, (a0.2.2.2.2.1, (a0.2.2.2.2.2.1, (a0.2.2.2.2.2.2.1, (a0.2.2.2.2.2.2.2.1, (a0.2.2.2.2.2.2.2.2.1, ())))))))))).bind (fun y4 => (F_impl_RecentPrints (y4.1, (y4.2.1, (y4.2.2.1, (y4.2.2.2.1, (y4.2.2.2.2.1, (y4.2.2.2.2.2.1, (y4.2.2.2.2.2.2.1, (y4.2.2.2.2.2.2.2.1, (y4.2.2.2.2.2.2.2.2.1, ())))))))))).bind (fun y5 => (F_laws_eqIntS y5 y3).bind (fun y6 => (bif (!y6) then
  some false
  else (F_laws_toShelf (a0.1, (a0.2.1, (a0.2.2.1, (a0.2.2.2.1, (a0.2.2.2.2.1, (a0.2.2.2.2.2.1, (a0.2.2.2.2.2.2.1, (a0.2.2.2.2.2.2.2.1, (a0.2.2.2.2.2.2.2.2.1, ())))))))))).bind (fun y7 => (F_laws_eqShelf (y4.1, (y4.2.1, (y4.2.2.1, (y4.2.2.2.1, (y4.2.2.2.2.1, (y4.2.2.2.2.2.1, (y4.2.2.2.2.2.2.1, (y4.2.2.2.2.2.2.2.1, (y4.2.2.2.2.2.2.2.2.1, ()))))))))) y7).bind (fun y8 => (bif (!y8) then
  some false
  else (F_laws_markShelf (y4.1, (y4.2.1, (y4.2.2.1, (y4.2.2.2.1, (y4.2.2.2.2.1, (y4.2.2.2.2.2.1, (y4.2.2.2.2.2.2.1, (y4.2.2.2.2.2.2.2.1, (y4.2.2.2.2.2.2.2.2.1, ()))))))))) 1).bind (fun y9 => joinK ((bif (decide (y9 < 0)) then
  some (.go true)
  else (F_laws_eqIntS y5 y3).bind (fun y10 => some (.go (!y10)))))
  (fun s => J_laws_FnExactRecentPrintsx0 a0 y3 y5 s)))))))))))))) (F_laws_FnExactRecentPrints a0) := callL_le (tt := tt) (FT := FT) (SP := SP) (j := 0) rfl (by kernel_rfl)
theorem U_laws_szShelf (a0 : SShelf) (a1 : Int) : Le ((F_laws_szTableS a0.2.1 a1).bind (fun y1 => (bif (decide (y1 < 0)) then
  some (-1)
  else (F_laws_szEntryS a0.2.2.1 y1).bind (fun y2 => (bif (decide (y2 < 0)) then
  some (-1)
  else some y2))))) (F_laws_szShelf a0 a1) := callL_le (tt := tt) (FT := FT) (SP := SP) (j := 1) rfl (by kernel_rfl)
noncomputable def L_laws_szTableSx0 (a0 : List STable) (f0 : (Int × Int × Int) → Option (Ex Int (Int × Int))) (v1 : Int) (v2 : Int) (v3 : Int) : Option (Ex Int (Int × Int)) :=
  (bif (decide (v3 < (a0.length : Int))) then
  (ix a0 v3).bind (fun z4 => (F_laws_szTable z4 v1).bind (fun y5 => (bif (decide (y5 < 0)) then
  some (.ret (-1))
  else f0 (y5, v2, (IntKind.i64.wrap (v3 + 1))))))
  else some (.go (v1, v2)))
@[simp] noncomputable def J_laws_szTableSx0 (v6 : Int) (v7 : Int) : Option Int :=
  some v6
theorem U_laws_szTableS (a0 : List STable) (a1 : Int) : Le ((bif (decide ((IntKind.i64.wrap (a1 - (a0.length : Int))) < 0)) then
  some (-1)
  else joinK (loopF (fun f s => L_laws_szTableSx0 a0 f s.1 s.2.1 s.2.2) ((IntKind.i64.wrap (a1 - (a0.length : Int))), 0, 0))
  (fun s => J_laws_szTableSx0 s.1 s.2))) (F_laws_szTableS a0 a1) := callL_le (tt := tt) (FT := FT) (SP := SP) (j := 2) rfl (by kernel_rfl)
theorem U_laws_szTable (a0 : STable) (a1 : Int) : Le ((bif (decide ((IntKind.i64.wrap (a1 - (a0.1.size : Int))) < 0)) then
  some (-1)
  else some (IntKind.i64.wrap (a1 - (a0.1.size : Int))))) (F_laws_szTable a0 a1) := callL_le (tt := tt) (FT := FT) (SP := SP) (j := 3) rfl (by kernel_rfl)
noncomputable def L_laws_szEntrySx0 (a0 : List SEntry) (f0 : (Int × Int × Int) → Option (Ex Int (Int × Int))) (v1 : Int) (v2 : Int) (v3 : Int) : Option (Ex Int (Int × Int)) :=
  (bif (decide (v3 < (a0.length : Int))) then
  (ix a0 v3).bind (fun z4 => (F_laws_szEntry z4 v1).bind (fun y5 => (bif (decide (y5 < 0)) then
  some (.ret (-1))
  else f0 (y5, v2, (IntKind.i64.wrap (v3 + 1))))))
  else some (.go (v1, v2)))
@[simp] noncomputable def J_laws_szEntrySx0 (v6 : Int) (v7 : Int) : Option Int :=
  some v6
theorem U_laws_szEntryS (a0 : List SEntry) (a1 : Int) : Le ((bif (decide ((IntKind.i64.wrap (a1 - (a0.length : Int))) < 0)) then
  some (-1)
  else joinK (loopF (fun f s => L_laws_szEntrySx0 a0 f s.1 s.2.1 s.2.2) ((IntKind.i64.wrap (a1 - (a0.length : Int))), 0, 0))
  (fun s => J_laws_szEntrySx0 s.1 s.2))) (F_laws_szEntryS a0 a1) := callL_le (tt := tt) (FT := FT) (SP := SP) (j := 4) rfl (by kernel_rfl)
theorem U_laws_szEntry (a0 : SEntry) (a1 : Int) : Le ((F_laws_szNodeS a0.2.1 a1).bind (fun y1 => (bif (decide (y1 < 0)) then
  some (-1)
  else (F_laws_szNodeS a0.2.2.1 y1).bind (fun y2 => (bif (decide (y2 < 0)) then
  some (-1)
  else some y2))))) (F_laws_szEntry a0 a1) := callL_le (tt := tt) (FT := FT) (SP := SP) (j := 5) rfl (by kernel_rfl)
noncomputable def L_laws_szNodeSx0 (a0 : List SNode) (f0 : (Int × Int × Int) → Option (Ex Int (Int × Int))) (v1 : Int) (v2 : Int) (v3 : Int) : Option (Ex Int (Int × Int)) :=
  (bif (decide (v3 < (a0.length : Int))) then
  (ix a0 v3).bind (fun z4 => (F_laws_szNode z4 v1).bind (fun y5 => (bif (decide (y5 < 0)) then
  some (.ret (-1))
  else f0 (y5, v2, (IntKind.i64.wrap (v3 + 1))))))
  else some (.go (v1, v2)))
@[simp] noncomputable def J_laws_szNodeSx0 (v6 : Int) (v7 : Int) : Option Int :=
  some v6
theorem U_laws_szNodeS (a0 : List SNode) (a1 : Int) : Le ((bif (decide ((IntKind.i64.wrap (a1 - (a0.length : Int))) < 0)) then
  some (-1)
  else joinK (loopF (fun f s => L_laws_szNodeSx0 a0 f s.1 s.2.1 s.2.2) ((IntKind.i64.wrap (a1 - (a0.length : Int))), 0, 0))
  (fun s => J_laws_szNodeSx0 s.1 s.2))) (F_laws_szNodeS a0 a1) := callL_le (tt := tt) (FT := FT) (SP := SP) (j := 6) rfl (by kernel_rfl)
theorem U_laws_szNode (a0 : SNode) (a1 : Int) : Le ((bif (decide ((IntKind.i64.wrap (a1 - (a0.2.1.size : Int))) < 0)) then
  some (-1)
  else (F_laws_szIntS a0.2.2.2.2.2.2.1 (IntKind.i64.wrap (a1 - (a0.2.1.size : Int)))).bind (fun y1 => (bif (decide (y1 < 0)) then
  some (-1)
  else some y1)))) (F_laws_szNode a0 a1) := callL_le (tt := tt) (FT := FT) (SP := SP) (j := 7) rfl (by kernel_rfl)
theorem U_laws_szIntS (a0 : List Int) (a1 : Int) : Le ((bif (decide ((IntKind.i64.wrap (a1 - (a0.length : Int))) < 0)) then
  some (-1)
  else some (IntKind.i64.wrap (a1 - (a0.length : Int))))) (F_laws_szIntS a0 a1) := callL_le (tt := tt) (FT := FT) (SP := SP) (j := 8) rfl (by kernel_rfl)
theorem U_laws_toShelf (a0 : SShelf) : Le ((F_laws_toTableS a0.2.1).bind (fun y1 => (F_laws_toEntryS a0.2.2.1).bind (fun y2 => some (a0.1, (y1, (y2, (a0.2.2.2.1, (a0.2.2.2.2.1, (a0.2.2.2.2.2.1, (a0.2.2.2.2.2.2.1, (a0.2.2.2.2.2.2.2.1, (a0.2.2.2.2.2.2.2.2.1, ())))))))))))) (F_laws_toShelf a0) := callL_le (tt := tt) (FT := FT) (SP := SP) (j := 9) rfl (by kernel_rfl)
noncomputable def L_laws_toTableSx0 (a0 : List STable) (f0 : ((List STable) × Int) → Option (Ex (List STable) (List STable))) (v2 : List STable) (v3 : Int) : Option (Ex (List STable) (List STable)) :=
  (bif (decide (v3 < (a0.length : Int))) then
  (ix a0 v3).bind (fun z4 => (F_laws_toTable z4).bind (fun y5 => (ix v2 v3).bind (fun z6 => (stx v2 v3 y5).bind (fun z7 => f0 (z7, (IntKind.i64.wrap (v3 + 1)))))))
  else some (.go v2))
@[simp] noncomputable def J_laws_toTableSx0 (v8 : List STable) : Option (List STable) :=
  some v8
theorem U_laws_toTableS (a0 : List STable) : Le ((mkx (a0.length : Int) ((ByteArray.empty, (0, ())) : STable)).bind (fun z1 => joinK (loopF (fun f s => L_laws_toTableSx0 a0 f s.1 s.2) (z1, 0))
  (fun s => J_laws_toTableSx0 s))) (F_laws_toTableS a0) := callL_le (tt := tt) (FT := FT) (SP := SP) (j := 10) rfl (by kernel_rfl)
theorem U_laws_toTable (a0 : STable) : Le (some (a0.1, (a0.2.1, ()))) (F_laws_toTable a0) := callL_le (tt := tt) (FT := FT) (SP := SP) (j := 11) rfl (by kernel_rfl)
noncomputable def L_laws_toEntrySx0 (a0 : List SEntry) (f0 : ((List SEntry) × Int) → Option (Ex (List SEntry) (List SEntry))) (v2 : List SEntry) (v3 : Int) : Option (Ex (List SEntry) (List SEntry)) :=
  (bif (decide (v3 < (a0.length : Int))) then
  (ix a0 v3).bind (fun z4 => (F_laws_toEntry z4).bind (fun y5 => (ix v2 v3).bind (fun z6 => (stx v2 v3 y5).bind (fun z7 => f0 (z7, (IntKind.i64.wrap (v3 + 1)))))))
  else some (.go v2))
@[simp] noncomputable def J_laws_toEntrySx0 (v8 : List SEntry) : Option (List SEntry) :=
  some v8
theorem U_laws_toEntryS (a0 : List SEntry) : Le ((mkx (a0.length : Int) ((0, ([], ([], (0, (0, ()))))) : SEntry)).bind (fun z1 => joinK (loopF (fun f s => L_laws_toEntrySx0 a0 f s.1 s.2) (z1, 0))
  (fun s => J_laws_toEntrySx0 s))) (F_laws_toEntryS a0) := callL_le (tt := tt) (FT := FT) (SP := SP) (j := 12) rfl (by kernel_rfl)
theorem U_laws_toEntry (a0 : SEntry) : Le ((F_laws_toNodeS a0.2.1).bind (fun y1 => (F_laws_toNodeS a0.2.2.1).bind (fun y2 => some (a0.1, (y1, (y2, (a0.2.2.2.1, (a0.2.2.2.2.1, ())))))))) (F_laws_toEntry a0) := callL_le (tt := tt) (FT := FT) (SP := SP) (j := 13) rfl (by kernel_rfl)
noncomputable def L_laws_toNodeSx0 (a0 : List SNode) (f0 : ((List SNode) × Int) → Option (Ex (List SNode) (List SNode))) (v2 : List SNode) (v3 : Int) : Option (Ex (List SNode) (List SNode)) :=
  (bif (decide (v3 < (a0.length : Int))) then
  (ix a0 v3).bind (fun z4 => (F_laws_toNode z4).bind (fun y5 => (ix v2 v3).bind (fun z6 => (stx v2 v3 y5).bind (fun z7 => f0 (z7, (IntKind.i64.wrap (v3 + 1)))))))
  else some (.go v2))
@[simp] noncomputable def J_laws_toNodeSx0 (v8 : List SNode) : Option (List SNode) :=
  some v8
theorem U_laws_toNodeS (a0 : List SNode) : Le ((mkx (a0.length : Int) ((0, (ByteArray.empty, (0, (0, (0, (false, ([], ()))))))) : SNode)).bind (fun z1 => joinK (loopF (fun f s => L_laws_toNodeSx0 a0 f s.1 s.2) (z1, 0))
  (fun s => J_laws_toNodeSx0 s))) (F_laws_toNodeS a0) := callL_le (tt := tt) (FT := FT) (SP := SP) (j := 14) rfl (by kernel_rfl)
theorem U_laws_toNode (a0 : SNode) : Le ((F_laws_toIntS a0.2.2.2.2.2.2.1).bind (fun y1 => some (a0.1, (a0.2.1, (a0.2.2.1, (a0.2.2.2.1, (a0.2.2.2.2.1, (a0.2.2.2.2.2.1, (y1, ()))))))))) (F_laws_toNode a0) := callL_le (tt := tt) (FT := FT) (SP := SP) (j := 15) rfl (by kernel_rfl)
noncomputable def L_laws_toIntSx0 (a0 : List Int) (f0 : ((List Int) × Int) → Option (Ex (List Int) (List Int))) (v2 : List Int) (v3 : Int) : Option (Ex (List Int) (List Int)) :=
  (bif (decide (v3 < (a0.length : Int))) then
  (ix a0 v3).bind (fun z4 => (ix v2 v3).bind (fun z5 => (stx v2 v3 z4).bind (fun z6 => f0 (z6, (IntKind.i64.wrap (v3 + 1))))))
  else some (.go v2))
@[simp] noncomputable def J_laws_toIntSx0 (v7 : List Int) : Option (List Int) :=
  some v7
theorem U_laws_toIntS (a0 : List Int) : Le ((mkx (a0.length : Int) (0 : Int)).bind (fun z1 => joinK (loopF (fun f s => L_laws_toIntSx0 a0 f s.1 s.2) (z1, 0))
  (fun s => J_laws_toIntSx0 s))) (F_laws_toIntS a0) := callL_le (tt := tt) (FT := FT) (SP := SP) (j := 16) rfl (by kernel_rfl)
noncomputable def L_spec_RecentPrintsx0 (a0 : SShelf) (f0 : ((List Int) × Int) → Option (Ex (List Int) (List Int))) (v2 : List Int) (v3 : Int) : Option (Ex (List Int) (List Int)) :=
  (bif (decide (v3 < (a0.2.2.1.length : Int))) then
  (ix a0.2.2.1 v3).bind (fun z4 => (apx v2 ([z4.1])).bind (fun z5 => f0 (z5, (IntKind.i64.wrap (v3 + 1)))))
  else some (.go v2))
@[simp] noncomputable def J_spec_RecentPrintsx0 (v6 : List Int) : Option (List Int) :=
  some v6
theorem U_spec_RecentPrints (a0 : SShelf) : Le ((F_spec_ShelfOk (a0.1, (a0.2.1, (a0.2.2.1, (a0.2.2.2.1, (a0.2.2.2.2.1, (a0.2.2.2.2.2.1, (a0.2.2.2.2.2.2.1, (a0.2.2.2.2.2.2.2.1, (a0.2.2.2.2.2.2.2.2.1, ())))))))))).bind (fun y1 => (bif (!y1) then
  some ([])
  else joinK (loopF (fun f s => L_spec_RecentPrintsx0 a0 f s.1 s.2) ([], 0))
  (fun s => J_spec_RecentPrintsx0 s)))) (F_spec_RecentPrints a0) := callL_le (tt := tt) (FT := FT) (SP := SP) (j := 17) rfl (by kernel_rfl)
noncomputable def L_spec_ShelfOkx1 (a0 : SShelf) (v11 : Int) (z12 : SEntry) (f1 : (Bool × Int) → Option (Ex (Ex Bool Bool) Bool)) (v21 : Bool) (v22 : Int) : Option (Ex (Ex Bool Bool) Bool) :=
  (bif (decide (v22 < v11)) then
  (ix a0.2.2.1 v22).bind (fun z23 => (F_spec_SamePlan z23.2.1 z12.2.1).bind (fun y24 => (bif y24 then
  some (.ret (.ret false))
  else f1 (v21, (IntKind.i64.wrap (v22 + 1))))))
  else some (.go v21))
@[simp] noncomputable def J_spec_ShelfOkx3 (a0 : SShelf) (v10 : Bool) (v11 : Int) (z12 : SEntry) (v20 : Bool) : Option (Ex (Ex Bool Bool) Bool) :=
  (bif v20 then
  some (.ret (.ret false))
  else loopF (fun f s => L_spec_ShelfOkx1 a0 v11 z12 f s.1 s.2) (v10, 0))
@[simp] noncomputable def J_spec_ShelfOkx2 (v11 : Int) (f0 : (Bool × Int) → Option (Ex Bool Bool)) (v25 : Bool) : Option (Ex Bool Bool) :=
  f0 (v25, (IntKind.i64.wrap (v11 + 1)))
noncomputable def L_spec_ShelfOkx0 (a0 : SShelf) (f0 : (Bool × Int) → Option (Ex Bool Bool)) (v10 : Bool) (v11 : Int) : Option (Ex Bool Bool) :=
  (bif (decide (v11 < (a0.2.2.1.length : Int))) then
  joinK ((ix a0.2.2.1 v11).bind (fun z12 => joinK ((F_spec_TypedOk a0.2.1 z12.2.1).bind (fun y13 => (bif (!y13) then
  some (.go true)
  else (F_spec_TypedOk a0.2.1 z12.2.2.1).bind (fun y14 => (bif (!y14) then
  some (.go true)
  else (F_spec_PrintOf z12.2.1).bind (fun y15 => (bif (z12.1 != y15) then
  some (.go true)
  else (F_spec_SlotsOf z12.2.1).bind (fun y16 => (F_spec_SlotsOk z12.2.2.1 (y16.length : Int)).bind (fun y17 => (bif (!y17) then
  some (.go true)
  else (F_spec_l01In z12.2.2.2.1 0 a0.2.2.2.1).bind (fun y18 => (bif (!y18) then
  some (.go true)
  else (F_spec_l01In z12.2.2.2.2.1 0 a0.2.2.2.2.1).bind (fun y19 => some (.go (!y19)))))))))))))))
  (fun s => J_spec_ShelfOkx3 a0 v10 v11 z12 s)))
  (fun s => J_spec_ShelfOkx2 v11 f0 s)
  else some (.go v10))
@[simp] noncomputable def J_spec_ShelfOkx1 (v26 : Bool) : Option Bool :=
  some true
@[simp] noncomputable def J_spec_ShelfOkx0 (a0 : SShelf) (v9 : Bool) : Option Bool :=
  (bif v9 then
  some false
  else joinK (loopF (fun f s => L_spec_ShelfOkx0 a0 f s.1 s.2) (false, 0))
  (fun s => J_spec_ShelfOkx1 s))
theorem U_spec_ShelfOk (a0 : SShelf) : Le (joinK ((F_spec_l01In a0.1 1 16).bind (fun y1 => (bif (!y1) then
  some (.go true)
  else (F_spec_SchemaOk a0.2.1).bind (fun y2 => (bif (!y2) then
  some (.go true)
  else (bif (decide ((a0.2.2.1.length : Int) > a0.1)) then
  some (.go true)
  else (F_spec_l10Version a0.2.2.2.1).bind (fun y3 => (bif (!y3) then
  some (.go true)
  else (F_spec_l10Version a0.2.2.2.2.1).bind (fun y4 => (bif (!y4) then
  some (.go true)
  else (F_spec_l10Count a0.2.2.2.2.2.1).bind (fun y5 => (bif (!y5) then
  some (.go true)
  else (F_spec_l10Count a0.2.2.2.2.2.2.1).bind (fun y6 => (bif (!y6) then
  some (.go true)
  else (F_spec_l10Count a0.2.2.2.2.2.2.2.1).bind (fun y7 => (bif (!y7) then
  some (.go true)
  else (F_spec_l10Count a0.2.2.2.2.2.2.2.2.1).bind (fun y8 => some (.go (!y8)))))))))))))))))))
  (fun s => J_spec_ShelfOkx0 a0 s)) (F_spec_ShelfOk a0) := callL_le (tt := tt) (FT := FT) (SP := SP) (j := 18) rfl (by kernel_rfl)
@[simp] noncomputable def J_spec_l01Inx0 (v1 : Bool) : Option Bool :=
  some v1
theorem U_spec_l01In (a0 : Int) (a1 : Int) (a2 : Int) : Le (joinK ((bif (decide (a1 ≤ a0)) then
  some (.go (decide (a0 ≤ a2)))
  else some (.go false)))
  (fun s => J_spec_l01Inx0 s)) (F_spec_l01In a0 a1 a2) := callL_le (tt := tt) (FT := FT) (SP := SP) (j := 19) rfl (by kernel_rfl)
@[simp] noncomputable def J_spec_SchemaOkx1 (v1 : Bool) (v2 : Int) (f0 : (Bool × Int) → Option (Ex Bool Bool)) (v10 : Bool) : Option (Ex Bool Bool) :=
  (bif v10 then
  some (.ret false)
  else f0 (v1, (IntKind.i64.wrap (v2 + 1))))
noncomputable def L_spec_SchemaOkx0 (a0 : List STable) (f0 : (Bool × Int) → Option (Ex Bool Bool)) (v1 : Bool) (v2 : Int) : Option (Ex Bool Bool) :=
  (bif (decide (v2 < (a0.length : Int))) then
  joinK ((ix a0 v2).bind (fun z3 => (F_spec_WordOk z3.1).bind (fun y4 => (bif (!y4) then
  some (.go true)
  else (ix a0 v2).bind (fun z5 => (F_spec_l01In z5.2.1 1 6).bind (fun y6 => (bif (!y6) then
  some (.go true)
  else (bif (decide (v2 > 0)) then
  (ix a0 (IntKind.i64.wrap (v2 - 1))).bind (fun z7 => (ix a0 v2).bind (fun z8 => (F_spec_l01Less z7.1 z8.1).bind (fun y9 => some (.go (!y9)))))
  else some (.go false)))))))))
  (fun s => J_spec_SchemaOkx1 v1 v2 f0 s)
  else some (.go v1))
@[simp] noncomputable def J_spec_SchemaOkx0 (v11 : Bool) : Option Bool :=
  some true
theorem U_spec_SchemaOk (a0 : List STable) : Le ((bif (decide ((a0.length : Int) > 8)) then
  some false
  else joinK (loopF (fun f s => L_spec_SchemaOkx0 a0 f s.1 s.2) (false, 0))
  (fun s => J_spec_SchemaOkx0 s))) (F_spec_SchemaOk a0) := callL_le (tt := tt) (FT := FT) (SP := SP) (j := 20) rfl (by kernel_rfl)
@[simp] noncomputable def J_spec_WordOkx2 (v4 : Bool) (v5 : Int) (f0 : (Bool × Int) → Option (Ex Bool Bool)) (v12 : Bool) : Option (Ex Bool Bool) :=
  (bif v12 then
  some (.ret false)
  else f0 (v4, (IntKind.i64.wrap (v5 + 1))))
noncomputable def L_spec_WordOkx0 (a0 : ByteArray) (f0 : (Bool × Int) → Option (Ex Bool Bool)) (v4 : Bool) (v5 : Int) : Option (Ex Bool Bool) :=
  (bif (decide (v5 < (a0.size : Int))) then
  joinK ((bix a0 v5).bind (fun z6 => (bif (decide (z6 < 97)) then
  (bix a0 v5).bind (fun z7 => (bif (decide (z7 < 48)) then
  some (.go true)
  else (bix a0 v5).bind (fun z8 => some (.go (decide (z8 > 57))))))
  else (bix a0 v5).bind (fun z9 => (bif (decide (z9 > 122)) then
  (bix a0 v5).bind (fun z10 => (bif (decide (z10 < 48)) then
  some (.go true)
  else (bix a0 v5).bind (fun z11 => some (.go (decide (z11 > 57))))))
  else some (.go false))))))
  (fun s => J_spec_WordOkx2 v4 v5 f0 s)
  else some (.go v4))
@[simp] noncomputable def J_spec_WordOkx1 (v13 : Bool) : Option Bool :=
  some true
@[simp] noncomputable def J_spec_WordOkx0 (a0 : ByteArray) (v3 : Bool) : Option Bool :=
  (bif v3 then
  some false
  else joinK (loopF (fun f s => L_spec_WordOkx0 a0 f s.1 s.2) (false, 0))
  (fun s => J_spec_WordOkx1 s))
theorem U_spec_WordOk (a0 : ByteArray) : Le (joinK ((F_spec_l01In (a0.size : Int) 1 12).bind (fun y1 => (bif (!y1) then
  some (.go true)
  else (bix a0 0).bind (fun z2 => some (.go (decide (z2 < 97)))))))
  (fun s => J_spec_WordOkx0 a0 s)) (F_spec_WordOk a0) := callL_le (tt := tt) (FT := FT) (SP := SP) (j := 21) rfl (by kernel_rfl)
@[simp] noncomputable def J_spec_l01Lessx1 (a0 : ByteArray) (a1 : ByteArray) (v1 : Bool) (v2 : Int) (f0 : (Bool × Int) → Option (Ex Bool Bool)) (v3 : Bool) : Option (Ex Bool Bool) :=
  (bif v3 then
  (bix a0 v2).bind (fun z4 => (bix a1 v2).bind (fun z5 => (bif (z4 != z5) then
  (bix a0 v2).bind (fun z6 => (bix a1 v2).bind (fun z7 => some (.ret (decide (z6 < z7)))))
  else f0 (v1, (IntKind.i64.wrap (v2 + 1))))))
  else some (.go v1))
noncomputable def L_spec_l01Lessx0 (a0 : ByteArray) (a1 : ByteArray) (f0 : (Bool × Int) → Option (Ex Bool Bool)) (v1 : Bool) (v2 : Int) : Option (Ex Bool Bool) :=
  joinK ((bif (decide (v2 < (a0.size : Int))) then
  some (.go (decide (v2 < (a1.size : Int))))
  else some (.go false)))
  (fun s => J_spec_l01Lessx1 a0 a1 v1 v2 f0 s)
@[simp] noncomputable def J_spec_l01Lessx0 (a0 : ByteArray) (a1 : ByteArray) (v8 : Bool) : Option Bool :=
  some (decide ((a0.size : Int) < (a1.size : Int)))
theorem U_spec_l01Less (a0 : ByteArray) (a1 : ByteArray) : Le (joinK (loopF (fun f s => L_spec_l01Lessx0 a0 a1 f s.1 s.2) (false, 0))
  (fun s => J_spec_l01Lessx0 a0 a1 s)) (F_spec_l01Less a0 a1) := callL_le (tt := tt) (FT := FT) (SP := SP) (j := 22) rfl (by kernel_rfl)
theorem U_spec_l10Version (a0 : Int) : Le ((F_spec_l01In a0 0 1000).bind (fun y1 => some y1)) (F_spec_l10Version a0) := callL_le (tt := tt) (FT := FT) (SP := SP) (j := 23) rfl (by kernel_rfl)
theorem U_spec_l10Count (a0 : Int) : Le ((F_spec_l01In a0 0 1000000).bind (fun y1 => some y1)) (F_spec_l10Count a0) := callL_le (tt := tt) (FT := FT) (SP := SP) (j := 24) rfl (by kernel_rfl)
theorem U_spec_TypedOk (a0 : List STable) (a1 : List SNode) : Le ((F_spec_WidthOf a0 a1).bind (fun y1 => some (y1 != (-1)))) (F_spec_TypedOk a0 a1) := callL_le (tt := tt) (FT := FT) (SP := SP) (j := 25) rfl (by kernel_rfl)
@[simp] noncomputable def J_spec_WidthOfx0 (a0 : List STable) (a1 : List SNode) (v3 : Bool) : Option Int :=
  (bif v3 then
  some (-1)
  else (F_spec_l03Width a0 a1 0).bind (fun y4 => some y4))
theorem U_spec_WidthOf (a0 : List STable) (a1 : List SNode) : Le (joinK ((F_spec_SchemaOk a0).bind (fun y1 => (bif (!y1) then
  some (.go true)
  else (F_spec_PlanOk a1).bind (fun y2 => some (.go (!y2))))))
  (fun s => J_spec_WidthOfx0 a0 a1 s)) (F_spec_WidthOf a0 a1) := callL_le (tt := tt) (FT := FT) (SP := SP) (j := 26) rfl (by kernel_rfl)
noncomputable def L_spec_PlanOkx0 (a0 : List SNode) (f0 : (Bool × Int) → Option (Ex Bool Bool)) (v2 : Bool) (v3 : Int) : Option (Ex Bool Bool) :=
  (bif (decide (v3 < (a0.length : Int))) then
  (ix a0 v3).bind (fun z4 => (F_spec_NodeOk z4).bind (fun y5 => (bif (!y5) then
  some (.ret false)
  else f0 (v2, (IntKind.i64.wrap (v3 + 1))))))
  else some (.go v2))
@[simp] noncomputable def J_spec_PlanOkx0 (a0 : List SNode) (v6 : Bool) : Option Bool :=
  (F_spec_l02End a0 0 10).bind (fun y7 => some (y7.1 == (a0.length : Int)))
theorem U_spec_PlanOk (a0 : List SNode) : Le ((F_spec_l01In (a0.length : Int) 1 40).bind (fun y1 => (bif (!y1) then
  some false
  else joinK (loopF (fun f s => L_spec_PlanOkx0 a0 f s.1 s.2) (false, 0))
  (fun s => J_spec_PlanOkx0 a0 s)))) (F_spec_PlanOk a0) := callL_le (tt := tt) (FT := FT) (SP := SP) (j := 27) rfl (by kernel_rfl)
@[simp] noncomputable def J_spec_NodeOkx2 (v11 : Bool) : Option (Ex Bool Bool) :=
  some (.ret v11)
@[simp] noncomputable def J_spec_NodeOkx3 (v15 : Bool) : Option (Ex Bool Bool) :=
  some (.ret v15)
noncomputable def L_spec_NodeOkx0 (a0 : SNode) (f0 : (Bool × Int) → Option (Ex (Ex Bool Bool) Bool)) (v16 : Bool) (v17 : Int) : Option (Ex (Ex Bool Bool) Bool) :=
  (bif (decide (v17 < (a0.2.2.2.2.2.2.1.length : Int))) then
  (ix a0.2.2.2.2.2.2.1 v17).bind (fun z18 => (F_spec_l02Col z18).bind (fun y19 => (bif (!y19) then
  some (.ret (.ret false))
  else f0 (v16, (IntKind.i64.wrap (v17 + 1))))))
  else some (.go v16))
@[simp] noncomputable def J_spec_NodeOkx5 (v22 : Bool) : Option (Ex Bool Bool) :=
  some (.ret v22)
@[simp] noncomputable def J_spec_NodeOkx4 (a0 : SNode) (v20 : Bool) : Option (Ex Bool Bool) :=
  joinK ((F_spec_l01In (a0.2.2.2.2.2.2.1.length : Int) 1 6).bind (fun y21 => (bif y21 then
  (bif (a0.2.2.1 == 0) then
  (bif (a0.2.2.2.2.1 == 0) then
  some (.go (!a0.2.2.2.2.2.1))
  else some (.go false))
  else some (.go false))
  else some (.go false))))
  (fun s => J_spec_NodeOkx5 s)
@[simp] noncomputable def J_spec_NodeOkx6 (v25 : Bool) : Option (Ex Bool Bool) :=
  some (.ret v25)
@[simp] noncomputable def J_spec_NodeOkx7 (v27 : Bool) : Option (Ex Bool Bool) :=
  some (.ret v27)
@[simp] noncomputable def J_spec_NodeOkx8 (v29 : Bool) : Option (Ex Bool Bool) :=
  some (.ret v29)
@[simp] noncomputable def J_spec_NodeOkx10 (v31 : Bool) : Option (Ex Bool Bool) :=
  some (.ret v31)
@[simp] noncomputable def J_spec_NodeOkx9 (a0 : SNode) (v30 : Bool) : Option (Ex Bool Bool) :=
  (bif v30 then
  joinK ((bif (a0.2.2.1 == 0) then
  (bif (a0.2.2.2.2.1 == 0) then
  some (.go (!a0.2.2.2.2.2.1))
  else some (.go false))
  else some (.go false)))
  (fun s => J_spec_NodeOkx10 s)
  else some (.go false))
@[simp] noncomputable def J_spec_NodeOkx1 (v32 : Bool) : Option Bool :=
  some false
@[simp] noncomputable def J_spec_NodeOkx0 (a0 : SNode) (v9 : Bool) : Option Bool :=
  (bif v9 then
  some false
  else joinK ((bif (a0.1 == 0) then
  joinK ((F_spec_WordOk a0.2.1).bind (fun y10 => (bif y10 then
  (bif (a0.2.2.1 == 0) then
  (bif (a0.2.2.2.2.1 == 0) then
  some (.go (!a0.2.2.2.2.2.1))
  else some (.go false))
  else some (.go false))
  else some (.go false))))
  (fun s => J_spec_NodeOkx2 s)
  else (bif (a0.1 == 1) then
  joinK ((F_spec_l02Col a0.2.2.1).bind (fun y12 => (bif y12 then
  (F_spec_l01In a0.2.2.2.1 0 3).bind (fun y13 => (bif y13 then
  (F_spec_l01Number a0.2.2.2.2.1).bind (fun y14 => (bif y14 then
  (bif (a0.2.2.2.1 != 3) then
  some (.go true)
  else (bif (a0.2.2.2.2.1 == 0) then
  some (.go (!a0.2.2.2.2.2.1))
  else some (.go false)))
  else some (.go false)))
  else some (.go false)))
  else some (.go false))))
  (fun s => J_spec_NodeOkx3 s)
  else (bif (a0.1 == 2) then
  joinK (loopF (fun f s => L_spec_NodeOkx0 a0 f s.1 s.2) (false, 0))
  (fun s => J_spec_NodeOkx4 a0 s)
  else (bif (a0.1 == 3) then
  joinK ((F_spec_l02Col a0.2.2.1).bind (fun y23 => (bif y23 then
  (F_spec_l02Col a0.2.2.2.2.1).bind (fun y24 => (bif y24 then
  some (.go (!a0.2.2.2.2.2.1))
  else some (.go false)))
  else some (.go false))))
  (fun s => J_spec_NodeOkx6 s)
  else (bif (a0.1 == 5) then
  joinK ((F_spec_l02Col a0.2.2.1).bind (fun y26 => (bif y26 then
  (bif (a0.2.2.2.2.1 == 0) then
  some (.go (!a0.2.2.2.2.2.1))
  else some (.go false))
  else some (.go false))))
  (fun s => J_spec_NodeOkx7 s)
  else (bif (a0.1 == 6) then
  joinK ((bif (a0.2.2.1 == 0) then
  (F_spec_l01In a0.2.2.2.2.1 0 1000000).bind (fun y28 => some (.go y28))
  else some (.go false)))
  (fun s => J_spec_NodeOkx8 s)
  else joinK ((bif (a0.1 == 4) then
  some (.go true)
  else some (.go (a0.1 == 7))))
  (fun s => J_spec_NodeOkx9 a0 s))))))))
  (fun s => J_spec_NodeOkx1 s))
theorem U_spec_NodeOk (a0 : SNode) : Le (joinK ((bif (a0.1 != 0) then
  (bif (!(a0.2.1.toList == ByteArray.empty.toList)) then
  some (.go true)
  else (bif (a0.1 != 2) then
  (bif (decide ((a0.2.2.2.2.2.2.1.length : Int) > 0)) then
  some (.go true)
  else (bif (a0.1 != 1) then
  (bif (a0.2.2.2.1 != 0) then
  some (.go true)
  else (bif a0.2.2.2.2.2.1 then
  (F_spec_l01In a0.2.2.2.2.1 0 39).bind (fun y1 => some (.go (!y1)))
  else some (.go false)))
  else (bif a0.2.2.2.2.2.1 then
  (F_spec_l01In a0.2.2.2.2.1 0 39).bind (fun y2 => some (.go (!y2)))
  else some (.go false))))
  else (bif (a0.1 != 1) then
  (bif (a0.2.2.2.1 != 0) then
  some (.go true)
  else (bif a0.2.2.2.2.2.1 then
  (F_spec_l01In a0.2.2.2.2.1 0 39).bind (fun y3 => some (.go (!y3)))
  else some (.go false)))
  else (bif a0.2.2.2.2.2.1 then
  (F_spec_l01In a0.2.2.2.2.1 0 39).bind (fun y4 => some (.go (!y4)))
  else some (.go false)))))
  else (bif (a0.1 != 2) then
  (bif (decide ((a0.2.2.2.2.2.2.1.length : Int) > 0)) then
  some (.go true)
  else (bif (a0.1 != 1) then
  (bif (a0.2.2.2.1 != 0) then
  some (.go true)
  else (bif a0.2.2.2.2.2.1 then
  (F_spec_l01In a0.2.2.2.2.1 0 39).bind (fun y5 => some (.go (!y5)))
  else some (.go false)))
  else (bif a0.2.2.2.2.2.1 then
  (F_spec_l01In a0.2.2.2.2.1 0 39).bind (fun y6 => some (.go (!y6)))
  else some (.go false))))
  else (bif (a0.1 != 1) then
  (bif (a0.2.2.2.1 != 0) then
  some (.go true)
  else (bif a0.2.2.2.2.2.1 then
  (F_spec_l01In a0.2.2.2.2.1 0 39).bind (fun y7 => some (.go (!y7)))
  else some (.go false)))
  else (bif a0.2.2.2.2.2.1 then
  (F_spec_l01In a0.2.2.2.2.1 0 39).bind (fun y8 => some (.go (!y8)))
  else some (.go false))))))
  (fun s => J_spec_NodeOkx0 a0 s)) (F_spec_NodeOk a0) := callL_le (tt := tt) (FT := FT) (SP := SP) (j := 28) rfl (by kernel_rfl)
theorem U_spec_l02Col (a0 : Int) : Le ((F_spec_l01In a0 0 63).bind (fun y1 => some y1)) (F_spec_l02Col a0) := callL_le (tt := tt) (FT := FT) (SP := SP) (j := 29) rfl (by kernel_rfl)
theorem U_spec_l01Number (a0 : Int) : Le ((F_spec_l01In a0 (-1000000) 1000000).bind (fun y1 => some y1)) (F_spec_l01Number a0) := callL_le (tt := tt) (FT := FT) (SP := SP) (j := 30) rfl (by kernel_rfl)
@[simp] noncomputable def J_spec_l02Endx2 (v6 : Int) (f0 : (Int × Int × Int × Int × Int) → Option (Ex (Int × Int) (Int × Int × Int × Int))) (v10 : Int) (v11 : Int) (v12 : Int) (v13 : Int) : Option (Ex (Int × Int) (Int × Int × Int × Int)) :=
  f0 (v10, v11, v12, v13, (IntKind.i64.wrap (v6 + 1)))
noncomputable def L_spec_l02Endx0 (a0 : List SNode) (a1 : Int) (a2 : Int) (f0 : (Int × Int × Int × Int × Int) → Option (Ex (Int × Int) (Int × Int × Int × Int))) (v2 : Int) (v3 : Int) (v4 : Int) (v5 : Int) (v6 : Int) : Option (Ex (Int × Int) (Int × Int × Int × Int)) :=
  (ix a0 a1).bind (fun z7 => (F_spec_ArityOf z7.1).bind (fun y8 => (bif (decide (v6 < y8)) then
  joinK ((F_spec_l02End a0 v4 (IntKind.i64.wrap (a2 - 1))).bind (fun y9 => (bif (decide (y9.1 < 0)) then
  some (.ret (.ret ((-1), 0)))
  else (bif (decide (y9.2 > v5)) then
  some (.go (v2, v3, y9.1, y9.2))
  else some (.go (v2, v3, y9.1, v5))))))
  (fun s => J_spec_l02Endx2 v6 f0 s.1 s.2.1 s.2.2.1 s.2.2.2)
  else some (.go (v2, v3, v4, v5)))))
@[simp] noncomputable def J_spec_l02Endx1 (v14 : Int) (v15 : Int) (v16 : Int) (v17 : Int) : Option (Int × Int) :=
  some (v16, (IntKind.i64.wrap (v17 + 1)))
@[simp] noncomputable def J_spec_l02Endx0 (a0 : List SNode) (a1 : Int) (a2 : Int) (v1 : Bool) : Option (Int × Int) :=
  (bif v1 then
  some ((-1), 0)
  else joinK (loopF (fun f s => L_spec_l02Endx0 a0 a1 a2 f s.1 s.2.1 s.2.2.1 s.2.2.2.1 s.2.2.2.2) (0, 0, (IntKind.i64.wrap (a1 + 1)), 0, 0))
  (fun s => J_spec_l02Endx1 s.1 s.2.1 s.2.2.1 s.2.2.2))
theorem U_spec_l02End (a0 : List SNode) (a1 : Int) (a2 : Int) : Le (joinK ((bif (decide (a1 ≥ (a0.length : Int))) then
  some (.go true)
  else some (.go (a2 == 0))))
  (fun s => J_spec_l02Endx0 a0 a1 a2 s)) (F_spec_l02End a0 a1 a2) := callL_le (tt := tt) (FT := FT) (SP := SP) (j := 31) rfl (by kernel_rfl)
@[simp] noncomputable def J_spec_ArityOfx1 (v2 : Bool) : Option Int :=
  (bif v2 then
  some 1
  else some (-1))
@[simp] noncomputable def J_spec_ArityOfx0 (a0 : Int) (v1 : Bool) : Option Int :=
  (bif v1 then
  some 2
  else joinK ((bif (a0 == 1) then
  some (.go true)
  else (bif (a0 == 2) then
  some (.go true)
  else (bif (a0 == 5) then
  some (.go true)
  else (bif (a0 == 6) then
  some (.go true)
  else some (.go (a0 == 7)))))))
  (fun s => J_spec_ArityOfx1 s))
theorem U_spec_ArityOf (a0 : Int) : Le ((bif (a0 == 0) then
  some 0
  else joinK ((bif (a0 == 3) then
  some (.go true)
  else some (.go (a0 == 4))))
  (fun s => J_spec_ArityOfx0 a0 s))) (F_spec_ArityOf a0) := callL_le (tt := tt) (FT := FT) (SP := SP) (j := 32) rfl (by kernel_rfl)
noncomputable def L_spec_l03Widthx0 (a0 : List STable) (a1 : List SNode) (y2 : List Int) (f0 : (Int × (List Int) × Int) → Option (Ex Int (Int × (List Int)))) (v3 : Int) (v4 : List Int) (v5 : Int) : Option (Ex Int (Int × (List Int))) :=
  (bif (decide (v5 < (y2.length : Int))) then
  (ix y2 v5).bind (fun z6 => (F_spec_l03Width a0 a1 z6).bind (fun y7 => (bif (decide (y7 < 0)) then
  some (.ret (-1))
  else (apx v4 ([y7])).bind (fun z8 => f0 (v3, z8, (IntKind.i64.wrap (v5 + 1)))))))
  else some (.go (v3, v4)))
noncomputable def L_spec_l03Widthx1 (z1 : SNode) (v10 : List Int) (f1 : (Int × Int) → Option (Ex (Ex Int Int) Int)) (v15 : Int) (v16 : Int) : Option (Ex (Ex Int Int) Int) :=
  (bif (decide (v16 < (z1.2.2.2.2.2.2.1.length : Int))) then
  (ix z1.2.2.2.2.2.2.1 v16).bind (fun z17 => (ix v10 0).bind (fun z18 => (bif (decide (z17 ≥ z18)) then
  some (.ret (.ret (-1)))
  else f1 (v15, (IntKind.i64.wrap (v16 + 1))))))
  else some (.go v15))
@[simp] noncomputable def J_spec_l03Widthx3 (z1 : SNode) (v19 : Int) : Option (Ex Int Int) :=
  some (.ret (z1.2.2.2.2.2.2.1.length : Int))
@[simp] noncomputable def J_spec_l03Widthx4 (v10 : List Int) (v24 : Bool) : Option (Ex Int Int) :=
  (bif v24 then
  some (.ret (-1))
  else (ix v10 0).bind (fun z25 => (ix v10 1).bind (fun z26 => some (.ret (IntKind.i64.wrap (z25 + z26))))))
@[simp] noncomputable def J_spec_l03Widthx2 (z1 : SNode) (v9 : Int) (v10 : List Int) (v13 : Bool) : Option (Ex Int Int) :=
  (bif v13 then
  (ix v10 0).bind (fun z14 => (bif (decide (z1.2.2.1 ≥ z14)) then
  some (.ret (-1))
  else some (.go v9)))
  else (bif (z1.1 == 2) then
  joinK (loopF (fun f s => L_spec_l03Widthx1 z1 v10 f s.1 s.2) (v9, 0))
  (fun s => J_spec_l03Widthx3 z1 s)
  else (bif (z1.1 == 3) then
  joinK ((ix v10 0).bind (fun z20 => (bif (decide (z1.2.2.1 ≥ z20)) then
  some (.go true)
  else (ix v10 1).bind (fun z21 => (bif (decide (z1.2.2.2.2.1 ≥ z21)) then
  some (.go true)
  else (ix v10 0).bind (fun z22 => (ix v10 1).bind (fun z23 => some (.go (decide ((IntKind.i64.wrap (z22 + z23)) > 64))))))))))
  (fun s => J_spec_l03Widthx4 v10 s)
  else (bif (z1.1 == 4) then
  (ix v10 0).bind (fun z27 => (ix v10 1).bind (fun z28 => (bif (z27 != z28) then
  some (.ret (-1))
  else some (.go v9))))
  else some (.go v9)))))
@[simp] noncomputable def J_spec_l03Widthx1 (v10 : List Int) (v29 : Int) : Option Int :=
  (ix v10 0).bind (fun z30 => some z30)
@[simp] noncomputable def J_spec_l03Widthx0 (a0 : List STable) (z1 : SNode) (v9 : Int) (v10 : List Int) : Option Int :=
  joinK ((bif (z1.1 == 0) then
  (F_spec_l03Find a0 z1.2.1).bind (fun y11 => (bif (decide (y11 < 0)) then
  some (.ret (-1))
  else (ix a0 y11).bind (fun z12 => some (.ret z12.2.1))))
  else joinK ((bif (z1.1 == 1) then
  some (.go true)
  else some (.go (z1.1 == 5))))
  (fun s => J_spec_l03Widthx2 z1 v9 v10 s)))
  (fun s => J_spec_l03Widthx1 v10 s)
theorem U_spec_l03Width (a0 : List STable) (a1 : List SNode) (a2 : Int) : Le ((ix a1 a2).bind (fun z1 => (F_spec_l02Kids a1 a2).bind (fun y2 => joinK (loopF (fun f s => L_spec_l03Widthx0 a0 a1 y2 f s.1 s.2.1 s.2.2) (0, [], 0))
  (fun s => J_spec_l03Widthx0 a0 z1 s.1 s.2)))) (F_spec_l03Width a0 a1 a2) := callL_le (tt := tt) (FT := FT) (SP := SP) (j := 33) rfl (by kernel_rfl)
noncomputable def L_spec_l02Kidsx0 (a0 : List SNode) (a1 : Int) (f0 : ((List Int) × Int × Int) → Option (Ex (List Int) (List Int))) (v1 : List Int) (v2 : Int) (v3 : Int) : Option (Ex (List Int) (List Int)) :=
  (ix a0 a1).bind (fun z4 => (F_spec_ArityOf z4.1).bind (fun y5 => (bif (decide (v3 < y5)) then
  (apx v1 ([v2])).bind (fun z6 => (F_spec_l02End a0 v2 10).bind (fun y7 => f0 (z6, y7.1, (IntKind.i64.wrap (v3 + 1)))))
  else some (.go v1))))
@[simp] noncomputable def J_spec_l02Kidsx0 (v8 : List Int) : Option (List Int) :=
  some v8
theorem U_spec_l02Kids (a0 : List SNode) (a1 : Int) : Le (joinK (loopF (fun f s => L_spec_l02Kidsx0 a0 a1 f s.1 s.2.1 s.2.2) ([], (IntKind.i64.wrap (a1 + 1)), 0))
  (fun s => J_spec_l02Kidsx0 s)) (F_spec_l02Kids a0 a1) := callL_le (tt := tt) (FT := FT) (SP := SP) (j := 34) rfl (by kernel_rfl)
noncomputable def L_spec_l03Findx0 (a0 : List STable) (a1 : ByteArray) (f0 : (Int × Int) → Option (Ex Int Int)) (v1 : Int) (v2 : Int) : Option (Ex Int Int) :=
  (bif (decide (v2 < (a0.length : Int))) then
  (ix a0 v2).bind (fun z3 => (bif (z3.1.toList == a1.toList) then
  some (.ret v2)
  else f0 (v1, (IntKind.i64.wrap (v2 + 1)))))
  else some (.go v1))
@[simp] noncomputable def J_spec_l03Findx0 (v4 : Int) : Option Int :=
  some (-1)
theorem U_spec_l03Find (a0 : List STable) (a1 : ByteArray) : Le (joinK (loopF (fun f s => L_spec_l03Findx0 a0 a1 f s.1 s.2) (0, 0))
  (fun s => J_spec_l03Findx0 s)) (F_spec_l03Find a0 a1) := callL_le (tt := tt) (FT := FT) (SP := SP) (j := 35) rfl (by kernel_rfl)
noncomputable def L_spec_PrintOfx0 (y1 : ((List Int) × Bool)) (f0 : (Int × Int) → Option (Ex Int Int)) (v2 : Int) (v3 : Int) : Option (Ex Int Int) :=
  (bif (decide (v3 < (y1.1.length : Int))) then
  (ix y1.1 v3).bind (fun z4 => (remx (IntKind.i64.wrap ((IntKind.i64.wrap (31 * v2)) + (IntKind.i64.wrap z4))) 251).bind (fun z5 => f0 (z5, (IntKind.i64.wrap (v3 + 1)))))
  else some (.go v2))
@[simp] noncomputable def J_spec_PrintOfx0 (v6 : Int) : Option Int :=
  some v6
theorem U_spec_PrintOf (a0 : List SNode) : Le ((F_spec_EncodePlan a0).bind (fun y1 => (bif (!y1.2) then
  some (-1)
  else joinK (loopF (fun f s => L_spec_PrintOfx0 y1 f s.1 s.2) (97, 0))
  (fun s => J_spec_PrintOfx0 s)))) (F_spec_PrintOf a0) := callL_le (tt := tt) (FT := FT) (SP := SP) (j := 36) rfl (by kernel_rfl)
noncomputable def L_spec_EncodePlanx0 (a0 : List SNode) (f0 : ((List Int) × Int) → Option (Ex ((List Int) × Bool) (List Int))) (v3 : List Int) (v4 : Int) : Option (Ex ((List Int) × Bool) (List Int)) :=
  (bif (decide (v4 < (a0.length : Int))) then
  (ix a0 v4).bind (fun z5 => (F_spec_PutNode z5).bind (fun y6 => (F_spec_l01Join v3 y6).bind (fun y7 => f0 (y7, (IntKind.i64.wrap (v4 + 1))))))
  else some (.go v3))
@[simp] noncomputable def J_spec_EncodePlanx0 (v8 : List Int) : Option ((List Int) × Bool) :=
  (F_spec_Frame v8).bind (fun y9 => some (y9.1, y9.2))
theorem U_spec_EncodePlan (a0 : List SNode) : Le ((F_spec_PlanOk a0).bind (fun y1 => (bif (!y1) then
  some ([], false)
  else (F_spec_PutNum (a0.length : Int)).bind (fun y2 => joinK (loopF (fun f s => L_spec_EncodePlanx0 a0 f s.1 s.2) (y2, 0))
  (fun s => J_spec_EncodePlanx0 s))))) (F_spec_EncodePlan a0) := callL_le (tt := tt) (FT := FT) (SP := SP) (j := 37) rfl (by kernel_rfl)
noncomputable def L_spec_PutNumx0 (f0 : ((List Int) × Int) → Option (Ex (List Int) ((List Int) × Int))) (v3 : List Int) (v4 : Int) : Option (Ex (List Int) ((List Int) × Int)) :=
  (bif (decide (v4 ≥ 128)) then
  (remx v4 128).bind (fun z5 => (apx v3 ([(IntKind.u8.wrap (IntKind.i64.wrap (128 + z5)))])).bind (fun z6 => (quox v4 128).bind (fun z7 => f0 (z6, z7))))
  else some (.go (v3, v4)))
@[simp] noncomputable def J_spec_PutNumx1 (v8 : List Int) (v9 : Int) : Option (List Int) :=
  (apx v8 ([(IntKind.u8.wrap v9)])).bind (fun z10 => some z10)
@[simp] noncomputable def J_spec_PutNumx0 (v2 : Int) : Option (List Int) :=
  joinK (loopF (fun f s => L_spec_PutNumx0 f s.1 s.2) ([], v2))
  (fun s => J_spec_PutNumx1 s.1 s.2)
theorem U_spec_PutNum (a0 : Int) : Le ((F_spec_l01Number a0).bind (fun y1 => (bif (!y1) then
  some ([])
  else joinK ((bif (decide (a0 < 0)) then
  some (.go (IntKind.i64.wrap ((IntKind.i64.wrap ((-2) * a0)) - 1)))
  else some (.go (IntKind.i64.wrap (2 * a0)))))
  (fun s => J_spec_PutNumx0 s)))) (F_spec_PutNum a0) := callL_le (tt := tt) (FT := FT) (SP := SP) (j := 38) rfl (by kernel_rfl)
theorem U_spec_PutNode (a0 : SNode) : Le ((F_spec_NodeOk (a0.1, (a0.2.1, (a0.2.2.1, (a0.2.2.2.1, (a0.2.2.2.2.1, (a0.2.2.2.2.2.1, (a0.2.2.2.2.2.2.1, ())))))))).bind (fun y1 => (bif (!y1) then
  some ([])
  else (F_spec_PutNum a0.1).bind (fun y2 => (bif (a0.1 == 0) then
  (F_spec_PutWord a0.2.1).bind (fun y3 => (F_spec_l01Join y2 y3).bind (fun y4 => some y4))
  else (bif (a0.1 == 1) then
  (F_spec_l05Flag a0.2.2.2.2.2.1).bind (fun y5 => (F_spec_l05Put y2 ([a0.2.2.1, a0.2.2.2.1, y5, a0.2.2.2.2.1])).bind (fun y6 => some y6))
  else (bif (a0.1 == 2) then
  (F_spec_PutNums a0.2.2.2.2.2.2.1).bind (fun y7 => (F_spec_l01Join y2 y7).bind (fun y8 => some y8))
  else (bif (a0.1 == 3) then
  (F_spec_l05Put y2 ([a0.2.2.1, a0.2.2.2.2.1])).bind (fun y9 => some y9)
  else (bif (a0.1 == 5) then
  (F_spec_l05Put y2 ([a0.2.2.1])).bind (fun y10 => some y10)
  else (bif (a0.1 == 6) then
  (F_spec_l05Flag a0.2.2.2.2.2.1).bind (fun y11 => (F_spec_l05Put y2 ([y11, a0.2.2.2.2.1])).bind (fun y12 => some y12))
  else some y2)))))))))) (F_spec_PutNode a0) := callL_le (tt := tt) (FT := FT) (SP := SP) (j := 39) rfl (by kernel_rfl)
theorem U_spec_PutWord (a0 : ByteArray) : Le ((F_spec_WordOk a0).bind (fun y1 => (bif (!y1) then
  some ([])
  else (F_spec_PutNum (a0.size : Int)).bind (fun y2 => (s2x a0).bind (fun z3 => (F_spec_l01Join y2 z3).bind (fun y4 => some y4)))))) (F_spec_PutWord a0) := callL_le (tt := tt) (FT := FT) (SP := SP) (j := 40) rfl (by kernel_rfl)
noncomputable def L_spec_l01Joinx0 (a1 : List Int) (f0 : ((List Int) × Int) → Option (Ex (List Int) (List Int))) (v2 : List Int) (v3 : Int) : Option (Ex (List Int) (List Int)) :=
  (bif (decide (v3 < (a1.length : Int))) then
  (ix a1 v3).bind (fun z4 => (apx v2 ([z4])).bind (fun z5 => f0 (z5, (IntKind.i64.wrap (v3 + 1)))))
  else some (.go v2))
@[simp] noncomputable def J_spec_l01Joinx0 (v6 : List Int) : Option (List Int) :=
  some v6
theorem U_spec_l01Join (a0 : List Int) (a1 : List Int) : Le ((F_spec_l01Bytes a0).bind (fun y1 => joinK (loopF (fun f s => L_spec_l01Joinx0 a1 f s.1 s.2) (y1, 0))
  (fun s => J_spec_l01Joinx0 s))) (F_spec_l01Join a0 a1) := callL_le (tt := tt) (FT := FT) (SP := SP) (j := 41) rfl (by kernel_rfl)
noncomputable def L_spec_l01Bytesx0 (a0 : List Int) (f0 : ((List Int) × Int) → Option (Ex (List Int) (List Int))) (v1 : List Int) (v2 : Int) : Option (Ex (List Int) (List Int)) :=
  (bif (decide (v2 < (a0.length : Int))) then
  (ix a0 v2).bind (fun z3 => (apx v1 ([z3])).bind (fun z4 => f0 (z4, (IntKind.i64.wrap (v2 + 1)))))
  else some (.go v1))
@[simp] noncomputable def J_spec_l01Bytesx0 (v5 : List Int) : Option (List Int) :=
  some v5
theorem U_spec_l01Bytes (a0 : List Int) : Le (joinK (loopF (fun f s => L_spec_l01Bytesx0 a0 f s.1 s.2) ([], 0))
  (fun s => J_spec_l01Bytesx0 s)) (F_spec_l01Bytes a0) := callL_le (tt := tt) (FT := FT) (SP := SP) (j := 42) rfl (by kernel_rfl)
theorem U_spec_l05Flag (a0 : Bool) : Le ((bif a0 then
  some 1
  else some 0)) (F_spec_l05Flag a0) := callL_le (tt := tt) (FT := FT) (SP := SP) (j := 43) rfl (by kernel_rfl)
noncomputable def L_spec_l05Putx0 (a1 : List Int) (f0 : ((List Int) × Int) → Option (Ex (List Int) (List Int))) (v1 : List Int) (v2 : Int) : Option (Ex (List Int) (List Int)) :=
  (bif (decide (v2 < (a1.length : Int))) then
  (ix a1 v2).bind (fun z3 => (F_spec_PutNum z3).bind (fun y4 => (F_spec_l01Joinx1 v1 y4).bind (fun y5 => f0 (y5, (IntKind.i64.wrap (v2 + 1))))))
  else some (.go v1))
@[simp] noncomputable def J_spec_l05Putx0 (v6 : List Int) : Option (List Int) :=
  some v6
theorem U_spec_l05Put (a0 : List Int) (a1 : List Int) : Le (joinK (loopF (fun f s => L_spec_l05Putx0 a1 f s.1 s.2) (a0, 0))
  (fun s => J_spec_l05Putx0 s)) (F_spec_l05Put a0 a1) := callL_le (tt := tt) (FT := FT) (SP := SP) (j := 44) rfl (by kernel_rfl)
noncomputable def L_spec_l01Joinx1x0 (a1 : List Int) (f0 : ((List Int) × Int) → Option (Ex (List Int) (List Int))) (v2 : List Int) (v3 : Int) : Option (Ex (List Int) (List Int)) :=
  (bif (decide (v3 < (a1.length : Int))) then
  (ix a1 v3).bind (fun z4 => (apx v2 ([z4])).bind (fun z5 => f0 (z5, (IntKind.i64.wrap (v3 + 1)))))
  else some (.go v2))
@[simp] noncomputable def J_spec_l01Joinx1x0 (v6 : List Int) : Option (List Int) :=
  some v6
theorem U_spec_l01Joinx1 (a0 : List Int) (a1 : List Int) : Le ((F_spec_l01Bytes a0).bind (fun y1 => joinK (loopF (fun f s => L_spec_l01Joinx1x0 a1 f s.1 s.2) (y1, 0))
  (fun s => J_spec_l01Joinx1x0 s))) (F_spec_l01Joinx1 a0 a1) := callL_le (tt := tt) (FT := FT) (SP := SP) (j := 45) rfl (by kernel_rfl)
noncomputable def L_spec_PutNumsx0 (a0 : List Int) (f0 : ((List Int) × (List Int) × Int) → Option (Ex (List Int) ((List Int) × (List Int)))) (v2 : List Int) (v3 : List Int) (v4 : Int) : Option (Ex (List Int) ((List Int) × (List Int))) :=
  (bif (decide (v4 < (a0.length : Int))) then
  (ix a0 v4).bind (fun z5 => (F_spec_l01Number z5).bind (fun y6 => (bif (!y6) then
  some (.ret ([]))
  else (ix a0 v4).bind (fun z7 => (F_spec_PutNum z7).bind (fun y8 => (F_spec_l01Join v3 y8).bind (fun y9 => f0 (v2, y9, (IntKind.i64.wrap (v4 + 1)))))))))
  else some (.go (v2, v3)))
@[simp] noncomputable def J_spec_PutNumsx0 (v10 : List Int) (v11 : List Int) : Option (List Int) :=
  some v11
theorem U_spec_PutNums (a0 : List Int) : Le ((bif (decide ((a0.length : Int) > 300)) then
  some ([])
  else (F_spec_PutNum (a0.length : Int)).bind (fun y1 => joinK (loopF (fun f s => L_spec_PutNumsx0 a0 f s.1 s.2.1 s.2.2) ([], y1, 0))
  (fun s => J_spec_PutNumsx0 s.1 s.2)))) (F_spec_PutNums a0) := callL_le (tt := tt) (FT := FT) (SP := SP) (j := 46) rfl (by kernel_rfl)
theorem U_spec_Frame (a0 : List Int) : Le ((bif (decide ((a0.length : Int) > 4000)) then
  some ([], false)
  else (bif (([80, 83]) : List Int).isEmpty then none else some (([80, 83]) : List Int)).bind (fun z1 => (F_spec_PutNum (a0.length : Int)).bind (fun y2 => (F_spec_l01Join z1 y2).bind (fun y3 => (F_spec_l01Join y3 a0).bind (fun y4 => (F_spec_CheckOf a0).bind (fun y5 => (F_spec_PutNum y5).bind (fun y6 => (F_spec_l01Join y4 y6).bind (fun y7 => some (y7, true)))))))))) (F_spec_Frame a0) := callL_le (tt := tt) (FT := FT) (SP := SP) (j := 47) rfl (by kernel_rfl)
noncomputable def L_spec_CheckOfx0 (a0 : List Int) (f0 : (Int × Int) → Option (Ex Int Int)) (v1 : Int) (v2 : Int) : Option (Ex Int Int) :=
  (bif (decide (v2 < (a0.length : Int))) then
  (ix a0 v2).bind (fun z3 => (remx (IntKind.i64.wrap ((IntKind.i64.wrap (269 * v1)) + (IntKind.i64.wrap z3))) 999983).bind (fun z4 => f0 (z4, (IntKind.i64.wrap (v2 + 1)))))
  else some (.go v1))
@[simp] noncomputable def J_spec_CheckOfx0 (v5 : Int) : Option Int :=
  some v5
theorem U_spec_CheckOf (a0 : List Int) : Le (joinK (loopF (fun f s => L_spec_CheckOfx0 a0 f s.1 s.2) (5, 0))
  (fun s => J_spec_CheckOfx0 s)) (F_spec_CheckOf a0) := callL_le (tt := tt) (FT := FT) (SP := SP) (j := 48) rfl (by kernel_rfl)
@[simp] noncomputable def J_spec_SlotsOfx3 (v3 : Int) (v4 : List Int) (v9 : Bool) : Option (Ex (Ex (Ex (List Int) (List Int)) (List Int)) (List Int)) :=
  (bif v9 then
  (apx v4 ([v3])).bind (fun z10 => some (.go z10))
  else some (.go v4))
@[simp] noncomputable def J_spec_SlotsOfx2 (v5 : Int) (f1 : ((List Int) × Int) → Option (Ex (Ex (List Int) (List Int)) (List Int))) (v11 : List Int) : Option (Ex (Ex (List Int) (List Int)) (List Int)) :=
  f1 (v11, (IntKind.i64.wrap (v5 + 1)))
noncomputable def L_spec_SlotsOfx1 (a0 : List SNode) (v3 : Int) (f1 : ((List Int) × Int) → Option (Ex (Ex (List Int) (List Int)) (List Int))) (v4 : List Int) (v5 : Int) : Option (Ex (Ex (List Int) (List Int)) (List Int)) :=
  (bif (decide (v5 < (a0.length : Int))) then
  joinK (joinK ((ix a0 v5).bind (fun z6 => (bif z6.2.2.2.2.2.1 then
  (ix a0 v5).bind (fun z7 => (bif (z7.2.2.2.2.1 == v3) then
  (F_spec_l01Has v4 v3).bind (fun y8 => some (.go (!y8)))
  else some (.go false)))
  else some (.go false))))
  (fun s => J_spec_SlotsOfx3 v3 v4 s))
  (fun s => J_spec_SlotsOfx2 v5 f1 s)
  else some (.go v4))
@[simp] noncomputable def J_spec_SlotsOfx1 (v3 : Int) (f0 : ((List Int) × Int) → Option (Ex (List Int) (List Int))) (v12 : List Int) : Option (Ex (List Int) (List Int)) :=
  f0 (v12, (IntKind.i64.wrap (v3 + 1)))
noncomputable def L_spec_SlotsOfx0 (a0 : List SNode) (f0 : ((List Int) × Int) → Option (Ex (List Int) (List Int))) (v2 : List Int) (v3 : Int) : Option (Ex (List Int) (List Int)) :=
  (bif (decide (v3 < 40)) then
  joinK (loopF (fun f s => L_spec_SlotsOfx1 a0 v3 f s.1 s.2) (v2, 0))
  (fun s => J_spec_SlotsOfx1 v3 f0 s)
  else some (.go v2))
@[simp] noncomputable def J_spec_SlotsOfx0 (v13 : List Int) : Option (List Int) :=
  some v13
theorem U_spec_SlotsOf (a0 : List SNode) : Le ((F_spec_PlanOk a0).bind (fun y1 => (bif (!y1) then
  some ([])
  else joinK (loopF (fun f s => L_spec_SlotsOfx0 a0 f s.1 s.2) ([], 0))
  (fun s => J_spec_SlotsOfx0 s)))) (F_spec_SlotsOf a0) := callL_le (tt := tt) (FT := FT) (SP := SP) (j := 49) rfl (by kernel_rfl)
noncomputable def L_spec_l01Hasx0 (a0 : List Int) (a1 : Int) (f0 : (Bool × Int) → Option (Ex Bool Bool)) (v1 : Bool) (v2 : Int) : Option (Ex Bool Bool) :=
  (bif (decide (v2 < (a0.length : Int))) then
  (ix a0 v2).bind (fun z3 => (bif (z3 == a1) then
  some (.ret true)
  else f0 (v1, (IntKind.i64.wrap (v2 + 1)))))
  else some (.go v1))
@[simp] noncomputable def J_spec_l01Hasx0 (v4 : Bool) : Option Bool :=
  some false
theorem U_spec_l01Has (a0 : List Int) (a1 : Int) : Le (joinK (loopF (fun f s => L_spec_l01Hasx0 a0 a1 f s.1 s.2) (false, 0))
  (fun s => J_spec_l01Hasx0 s)) (F_spec_l01Has a0 a1) := callL_le (tt := tt) (FT := FT) (SP := SP) (j := 50) rfl (by kernel_rfl)
@[simp] noncomputable def J_spec_SlotsOkx1 (v2 : Bool) (v3 : Int) (f0 : (Bool × Int) → Option (Ex Bool Bool)) (v6 : Bool) : Option (Ex Bool Bool) :=
  (bif v6 then
  some (.ret false)
  else f0 (v2, (IntKind.i64.wrap (v3 + 1))))
noncomputable def L_spec_SlotsOkx0 (a0 : List SNode) (a1 : Int) (f0 : (Bool × Int) → Option (Ex Bool Bool)) (v2 : Bool) (v3 : Int) : Option (Ex Bool Bool) :=
  (bif (decide (v3 < (a0.length : Int))) then
  joinK ((ix a0 v3).bind (fun z4 => (bif z4.2.2.2.2.2.1 then
  (ix a0 v3).bind (fun z5 => some (.go (decide (z5.2.2.2.2.1 ≥ a1))))
  else some (.go false))))
  (fun s => J_spec_SlotsOkx1 v2 v3 f0 s)
  else some (.go v2))
@[simp] noncomputable def J_spec_SlotsOkx0 (v7 : Bool) : Option Bool :=
  some true
theorem U_spec_SlotsOk (a0 : List SNode) (a1 : Int) : Le ((F_spec_PlanOk a0).bind (fun y1 => (bif (!y1) then
  some false
  else joinK (loopF (fun f s => L_spec_SlotsOkx0 a0 a1 f s.1 s.2) (false, 0))
  (fun s => J_spec_SlotsOkx0 s)))) (F_spec_SlotsOk a0 a1) := callL_le (tt := tt) (FT := FT) (SP := SP) (j := 51) rfl (by kernel_rfl)
noncomputable def L_spec_SamePlanx0 (a0 : List SNode) (a1 : List SNode) (f0 : (Bool × Int) → Option (Ex Bool Bool)) (v1 : Bool) (v2 : Int) : Option (Ex Bool Bool) :=
  (bif (decide (v2 < (a0.length : Int))) then
  (ix a0 v2).bind (fun z3 => (ix a1 v2).bind (fun z4 => (F_spec_l02SameNode z3 z4).bind (fun y5 => (bif (!y5) then
  some (.ret false)
  else f0 (v1, (IntKind.i64.wrap (v2 + 1)))))))
  else some (.go v1))
@[simp] noncomputable def J_spec_SamePlanx0 (v6 : Bool) : Option Bool :=
  some true
theorem U_spec_SamePlan (a0 : List SNode) (a1 : List SNode) : Le ((bif ((a0.length : Int) != (a1.length : Int)) then
  some false
  else joinK (loopF (fun f s => L_spec_SamePlanx0 a0 a1 f s.1 s.2) (false, 0))
  (fun s => J_spec_SamePlanx0 s))) (F_spec_SamePlan a0 a1) := callL_le (tt := tt) (FT := FT) (SP := SP) (j := 52) rfl (by kernel_rfl)
@[simp] noncomputable def J_spec_l02SameNodex0 (v2 : Bool) : Option Bool :=
  some v2
theorem U_spec_l02SameNode (a0 : SNode) (a1 : SNode) : Le (joinK ((bif (a0.1 == a1.1) then
  (bif (a0.2.1.toList == a1.2.1.toList) then
  (bif (a0.2.2.1 == a1.2.2.1) then
  (bif (a0.2.2.2.1 == a1.2.2.2.1) then
  (bif (a0.2.2.2.2.1 == a1.2.2.2.2.1) then
  (bif (a0.2.2.2.2.2.1 == a1.2.2.2.2.2.1) then
  (F_spec_l02SameInts a0.2.2.2.2.2.2.1 a1.2.2.2.2.2.2.1).bind (fun y1 => some (.go y1))
  else some (.go false))
  else some (.go false))
  else some (.go false))
  else some (.go false))
  else some (.go false))
  else some (.go false)))
  (fun s => J_spec_l02SameNodex0 s)) (F_spec_l02SameNode a0 a1) := callL_le (tt := tt) (FT := FT) (SP := SP) (j := 53) rfl (by kernel_rfl)
noncomputable def L_spec_l02SameIntsx0 (a0 : List Int) (a1 : List Int) (f0 : (Bool × Int) → Option (Ex Bool Bool)) (v1 : Bool) (v2 : Int) : Option (Ex Bool Bool) :=
  (bif (decide (v2 < (a0.length : Int))) then
  (ix a0 v2).bind (fun z3 => (ix a1 v2).bind (fun z4 => (bif (z3 != z4) then
  some (.ret false)
  else f0 (v1, (IntKind.i64.wrap (v2 + 1))))))
  else some (.go v1))
@[simp] noncomputable def J_spec_l02SameIntsx0 (v5 : Bool) : Option Bool :=
  some true
theorem U_spec_l02SameInts (a0 : List Int) (a1 : List Int) : Le ((bif ((a0.length : Int) != (a1.length : Int)) then
  some false
  else joinK (loopF (fun f s => L_spec_l02SameIntsx0 a0 a1 f s.1 s.2) (false, 0))
  (fun s => J_spec_l02SameIntsx0 s))) (F_spec_l02SameInts a0 a1) := callL_le (tt := tt) (FT := FT) (SP := SP) (j := 54) rfl (by kernel_rfl)
noncomputable def L_impl_RecentPrintsx0 (a0 : SShelf) (f0 : ((List Int) × Int) → Option (Ex (List Int) (List Int))) (v2 : List Int) (v3 : Int) : Option (Ex (List Int) (List Int)) :=
  (bif (decide (v3 < (a0.2.2.1.length : Int))) then
  (ix a0.2.2.1 v3).bind (fun z4 => (apx v2 ([z4.1])).bind (fun z5 => f0 (z5, (IntKind.i64.wrap (v3 + 1)))))
  else some (.go v2))
@[simp] noncomputable def J_impl_RecentPrintsx0 (v6 : List Int) : Option (List Int) :=
  some v6
theorem U_impl_RecentPrints (a0 : SShelf) : Le ((F_impl_ShelfOk (a0.1, (a0.2.1, (a0.2.2.1, (a0.2.2.2.1, (a0.2.2.2.2.1, (a0.2.2.2.2.2.1, (a0.2.2.2.2.2.2.1, (a0.2.2.2.2.2.2.2.1, (a0.2.2.2.2.2.2.2.2.1, ())))))))))).bind (fun y1 => (bif (!y1) then
  some ([])
  else joinK (loopF (fun f s => L_impl_RecentPrintsx0 a0 f s.1 s.2) ([], 0))
  (fun s => J_impl_RecentPrintsx0 s)))) (F_impl_RecentPrints a0) := callL_le (tt := tt) (FT := FT) (SP := SP) (j := 55) rfl (by kernel_rfl)
noncomputable def L_impl_ShelfOkx0 (a0 : SShelf) (f0 : (Bool × Int) → Option (Ex Bool Bool)) (v6 : Bool) (v7 : Int) : Option (Ex Bool Bool) :=
  (bif (decide (v7 < (([a0.2.2.2.2.2.1, a0.2.2.2.2.2.2.1, a0.2.2.2.2.2.2.2.1, a0.2.2.2.2.2.2.2.2.1]).length : Int))) then
  (ix ([a0.2.2.2.2.2.1, a0.2.2.2.2.2.2.1, a0.2.2.2.2.2.2.2.1, a0.2.2.2.2.2.2.2.2.1]) v7).bind (fun z8 => (F_impl_in z8 0 1000000).bind (fun y9 => (bif (!y9) then
  some (.ret false)
  else f0 (v6, (IntKind.i64.wrap (v7 + 1))))))
  else some (.go v6))
noncomputable def L_impl_ShelfOkx2 (z13 : SEntry) (z22 : List SEntry) (f2 : (Bool × Int) → Option (Ex (Ex Bool Bool) Bool)) (v23 : Bool) (v24 : Int) : Option (Ex (Ex Bool Bool) Bool) :=
  (bif (decide (v24 < (z22.length : Int))) then
  (ix z22 v24).bind (fun z25 => (F_impl_SamePlan z13.2.1 z25.2.1).bind (fun y26 => (bif y26 then
  some (.ret (.ret false))
  else f2 (v23, (IntKind.i64.wrap (v24 + 1))))))
  else some (.go v23))
@[simp] noncomputable def J_impl_ShelfOkx4 (a0 : SShelf) (v11 : Bool) (v12 : Int) (z13 : SEntry) (v19 : Bool) : Option (Ex (Ex Bool Bool) Bool) :=
  (bif v19 then
  some (.ret (.ret false))
  else (F_impl_SlotsOf z13.2.1).bind (fun y20 => (F_impl_SlotsOk z13.2.2.1 (y20.length : Int)).bind (fun y21 => (bif (!y21) then
  some (.ret (.ret false))
  else (slx a0.2.2.1 0 v12).bind (fun z22 => loopF (fun f s => L_impl_ShelfOkx2 z13 z22 f s.1 s.2) (v11, 0))))))
@[simp] noncomputable def J_impl_ShelfOkx3 (v12 : Int) (f1 : (Bool × Int) → Option (Ex Bool Bool)) (v27 : Bool) : Option (Ex Bool Bool) :=
  f1 (v27, (IntKind.i64.wrap (v12 + 1)))
noncomputable def L_impl_ShelfOkx1 (a0 : SShelf) (f1 : (Bool × Int) → Option (Ex Bool Bool)) (v11 : Bool) (v12 : Int) : Option (Ex Bool Bool) :=
  (bif (decide (v12 < (a0.2.2.1.length : Int))) then
  joinK ((ix a0.2.2.1 v12).bind (fun z13 => joinK ((F_impl_TypedOk a0.2.1 z13.2.1).bind (fun y14 => (bif (!y14) then
  some (.go true)
  else (F_impl_TypedOk a0.2.1 z13.2.2.1).bind (fun y15 => (bif (!y15) then
  some (.go true)
  else (F_impl_PrintOf z13.2.1).bind (fun y16 => (bif (z13.1 != y16) then
  some (.go true)
  else (F_impl_in z13.2.2.2.1 0 a0.2.2.2.1).bind (fun y17 => (bif (!y17) then
  some (.go true)
  else (F_impl_in z13.2.2.2.2.1 0 a0.2.2.2.2.1).bind (fun y18 => some (.go (!y18))))))))))))
  (fun s => J_impl_ShelfOkx4 a0 v11 v12 z13 s)))
  (fun s => J_impl_ShelfOkx3 v12 f1 s)
  else some (.go v11))
@[simp] noncomputable def J_impl_ShelfOkx2 (v28 : Bool) : Option Bool :=
  some true
@[simp] noncomputable def J_impl_ShelfOkx1 (a0 : SShelf) (v10 : Bool) : Option Bool :=
  joinK (loopF (fun f s => L_impl_ShelfOkx1 a0 f s.1 s.2) (v10, 0))
  (fun s => J_impl_ShelfOkx2 s)
@[simp] noncomputable def J_impl_ShelfOkx0 (a0 : SShelf) (v5 : Bool) : Option Bool :=
  (bif v5 then
  some false
  else joinK (loopF (fun f s => L_impl_ShelfOkx0 a0 f s.1 s.2) (false, 0))
  (fun s => J_impl_ShelfOkx1 a0 s))
theorem U_impl_ShelfOk (a0 : SShelf) : Le (joinK ((F_impl_isCap a0.1).bind (fun y1 => (bif (!y1) then
  some (.go true)
  else (F_impl_SchemaOk a0.2.1).bind (fun y2 => (bif (!y2) then
  some (.go true)
  else (bif (decide ((a0.2.2.1.length : Int) > a0.1)) then
  some (.go true)
  else (F_impl_isVersion a0.2.2.2.1).bind (fun y3 => (bif (!y3) then
  some (.go true)
  else (F_impl_isVersion a0.2.2.2.2.1).bind (fun y4 => some (.go (!y4)))))))))))
  (fun s => J_impl_ShelfOkx0 a0 s)) (F_impl_ShelfOk a0) := callL_le (tt := tt) (FT := FT) (SP := SP) (j := 56) rfl (by kernel_rfl)
theorem U_impl_isCap (a0 : Int) : Le ((F_impl_in a0 1 16).bind (fun y1 => some y1)) (F_impl_isCap a0) := callL_le (tt := tt) (FT := FT) (SP := SP) (j := 57) rfl (by kernel_rfl)
@[simp] noncomputable def J_impl_inx0 (v1 : Bool) : Option Bool :=
  some v1
theorem U_impl_in (a0 : Int) (a1 : Int) (a2 : Int) : Le (joinK ((bif (decide (a0 ≥ a1)) then
  some (.go (decide (a0 ≤ a2)))
  else some (.go false)))
  (fun s => J_impl_inx0 s)) (F_impl_in a0 a1 a2) := callL_le (tt := tt) (FT := FT) (SP := SP) (j := 58) rfl (by kernel_rfl)
@[simp] noncomputable def J_impl_SchemaOkx1 (v1 : Bool) (v2 : Int) (f0 : (Bool × Int) → Option (Ex Bool Bool)) (v7 : Bool) : Option (Ex Bool Bool) :=
  (bif v7 then
  some (.ret false)
  else f0 (v1, (IntKind.i64.wrap (v2 + 1))))
noncomputable def L_impl_SchemaOkx0 (a0 : List STable) (f0 : (Bool × Int) → Option (Ex Bool Bool)) (v1 : Bool) (v2 : Int) : Option (Ex Bool Bool) :=
  (bif (decide (v2 < (a0.length : Int))) then
  (ix a0 v2).bind (fun z3 => joinK ((F_impl_WordOk z3.1).bind (fun y4 => (bif (!y4) then
  some (.go true)
  else (F_impl_in z3.2.1 1 6).bind (fun y5 => (bif (!y5) then
  some (.go true)
  else (bif (decide (v2 > 0)) then
  (ix a0 (IntKind.i64.wrap (v2 - 1))).bind (fun z6 => some (.go (!(Op.bytesLess z6.1.toList z3.1.toList))))
  else some (.go false)))))))
  (fun s => J_impl_SchemaOkx1 v1 v2 f0 s))
  else some (.go v1))
@[simp] noncomputable def J_impl_SchemaOkx0 (a0 : List STable) (v8 : Bool) : Option Bool :=
  some (decide ((a0.length : Int) ≤ 8))
theorem U_impl_SchemaOk (a0 : List STable) : Le (joinK (loopF (fun f s => L_impl_SchemaOkx0 a0 f s.1 s.2) (false, 0))
  (fun s => J_impl_SchemaOkx0 a0 s)) (F_impl_SchemaOk a0) := callL_le (tt := tt) (FT := FT) (SP := SP) (j := 59) rfl (by kernel_rfl)
@[simp] noncomputable def J_impl_WordOkx2 (v1 : Bool) (v2 : Int) (f0 : (Bool × Int) → Option (Ex Bool Bool)) (v5 : Bool) : Option (Ex Bool Bool) :=
  (bif v5 then
  some (.ret false)
  else f0 (v1, (IntKind.i64.wrap (v2 + 1))))
@[simp] noncomputable def J_impl_WordOkx1 (v1 : Bool) (v2 : Int) (z3 : Int) (f0 : (Bool × Int) → Option (Ex Bool Bool)) (v4 : Bool) : Option (Ex Bool Bool) :=
  joinK ((bif (!v4) then
  (bif (v2 == 0) then
  some (.go true)
  else (bif (decide (z3 < 48)) then
  some (.go true)
  else some (.go (decide (z3 > 57)))))
  else some (.go false)))
  (fun s => J_impl_WordOkx2 v1 v2 f0 s)
noncomputable def L_impl_WordOkx0 (a0 : ByteArray) (f0 : (Bool × Int) → Option (Ex Bool Bool)) (v1 : Bool) (v2 : Int) : Option (Ex Bool Bool) :=
  (bif (decide (v2 < (a0.size : Int))) then
  (bix a0 v2).bind (fun z3 => joinK ((bif (decide (z3 ≥ 97)) then
  some (.go (decide (z3 ≤ 122)))
  else some (.go false)))
  (fun s => J_impl_WordOkx1 v1 v2 z3 f0 s))
  else some (.go v1))
@[simp] noncomputable def J_impl_WordOkx0 (a0 : ByteArray) (v6 : Bool) : Option Bool :=
  (F_impl_in (a0.size : Int) 1 12).bind (fun y7 => some y7)
theorem U_impl_WordOk (a0 : ByteArray) : Le (joinK (loopF (fun f s => L_impl_WordOkx0 a0 f s.1 s.2) (false, 0))
  (fun s => J_impl_WordOkx0 a0 s)) (F_impl_WordOk a0) := callL_le (tt := tt) (FT := FT) (SP := SP) (j := 60) rfl (by kernel_rfl)
theorem U_impl_isVersion (a0 : Int) : Le ((F_impl_in a0 0 1000).bind (fun y1 => some y1)) (F_impl_isVersion a0) := callL_le (tt := tt) (FT := FT) (SP := SP) (j := 61) rfl (by kernel_rfl)
theorem U_impl_TypedOk (a0 : List STable) (a1 : List SNode) : Le ((F_impl_WidthOf a0 a1).bind (fun y1 => some (decide (y1 ≥ 0)))) (F_impl_TypedOk a0 a1) := callL_le (tt := tt) (FT := FT) (SP := SP) (j := 62) rfl (by kernel_rfl)
@[simp] noncomputable def J_impl_WidthOfx0 (a0 : List STable) (a1 : List SNode) (v3 : Bool) : Option Int :=
  (bif v3 then
  some (-1)
  else (F_impl_width a0 a1 0).bind (fun y4 => some y4))
theorem U_impl_WidthOf (a0 : List STable) (a1 : List SNode) : Le (joinK ((F_impl_SchemaOk a0).bind (fun y1 => (bif (!y1) then
  some (.go true)
  else (F_impl_PlanOk a1).bind (fun y2 => some (.go (!y2))))))
  (fun s => J_impl_WidthOfx0 a0 a1 s)) (F_impl_WidthOf a0 a1) := callL_le (tt := tt) (FT := FT) (SP := SP) (j := 63) rfl (by kernel_rfl)
@[simp] noncomputable def J_impl_PlanOkx0 (a0 : List SNode) (v3 : Bool) : Option Bool :=
  (bif v3 then
  some false
  else (F_impl_end a0 0 1).bind (fun y4 => some (y4 == (a0.length : Int))))
theorem U_impl_PlanOk (a0 : List SNode) : Le (joinK ((F_impl_in (a0.length : Int) 1 40).bind (fun y1 => (bif (!y1) then
  some (.go true)
  else (F_slices_ContainsFunc_LimplNode_impl_PlanOk_1 a0).bind (fun y2 => some (.go y2)))))
  (fun s => J_impl_PlanOkx0 a0 s)) (F_impl_PlanOk a0) := callL_le (tt := tt) (FT := FT) (SP := SP) (j := 64) rfl (by kernel_rfl)
theorem U_slices_ContainsFunc_LimplNode_impl_PlanOk_1 (a0 : List SNode) : Le ((F_slices_IndexFunc_LimplNode_impl_PlanOk_1 a0).bind (fun y1 => some (decide (y1 ≥ 0)))) (F_slices_ContainsFunc_LimplNode_impl_PlanOk_1 a0) := callL_le (tt := tt) (FT := FT) (SP := SP) (j := 65) rfl (by kernel_rfl)
noncomputable def L_slices_IndexFunc_LimplNode_impl_PlanOk_1x0 (a0 : List SNode) (f0 : (Int × Int) → Option (Ex Int Int)) (v1 : Int) (v2 : Int) : Option (Ex Int Int) :=
  (bif (decide (v2 < (a0.length : Int))) then
  (ix a0 v2).bind (fun z3 => (F_impl_PlanOk_1 z3).bind (fun y4 => (bif y4 then
  some (.ret v2)
  else f0 (v1, (IntKind.i64.wrap (v2 + 1))))))
  else some (.go v1))
@[simp] noncomputable def J_slices_IndexFunc_LimplNode_impl_PlanOk_1x0 (v5 : Int) : Option Int :=
  some (-1)
theorem U_slices_IndexFunc_LimplNode_impl_PlanOk_1 (a0 : List SNode) : Le (joinK (loopF (fun f s => L_slices_IndexFunc_LimplNode_impl_PlanOk_1x0 a0 f s.1 s.2) (0, 0))
  (fun s => J_slices_IndexFunc_LimplNode_impl_PlanOk_1x0 s)) (F_slices_IndexFunc_LimplNode_impl_PlanOk_1 a0) := callL_le (tt := tt) (FT := FT) (SP := SP) (j := 66) rfl (by kernel_rfl)
theorem U_impl_PlanOk_1 (a0 : SNode) : Le ((F_impl_NodeOk (a0.1, (a0.2.1, (a0.2.2.1, (a0.2.2.2.1, (a0.2.2.2.2.1, (a0.2.2.2.2.2.1, (a0.2.2.2.2.2.2.1, ())))))))).bind (fun y1 => some (!y1))) (F_impl_PlanOk_1 a0) := callL_le (tt := tt) (FT := FT) (SP := SP) (j := 67) rfl (by kernel_rfl)
@[simp] noncomputable def J_impl_NodeOkx2 (a0 : SNode) (v7 : Bool) : Option (Ex Bool (Int × ByteArray × Int × Int × Int × Bool × (List Int) × Bool)) :=
  some (.go (0, a0.2.1, 0, 0, 0, false, a0.2.2.2.2.2.2.1, v7))
@[simp] noncomputable def J_impl_NodeOkx1 (a0 : SNode) (v4 : Bool) : Option (Ex Bool (Int × ByteArray × Int × Int × Int × Bool × (List Int) × Bool)) :=
  joinK ((bif (a0.2.2.2.1 == 3) then
  (bif v4 then
  (bif (a0.2.2.2.2.1 == 0) then
  some (.go (!a0.2.2.2.2.2.1))
  else some (.go false))
  else some (.go false))
  else (bif a0.2.2.2.2.2.1 then
  (bif v4 then
  (F_impl_isSlot a0.2.2.2.2.1).bind (fun y5 => some (.go y5))
  else some (.go false))
  else (bif v4 then
  (F_impl_isNum a0.2.2.2.2.1).bind (fun y6 => some (.go y6))
  else some (.go false)))))
  (fun s => J_impl_NodeOkx2 a0 s)
@[simp] noncomputable def J_impl_NodeOkx3 (a0 : SNode) (v10 : Bool) : Option (Ex Bool (Int × ByteArray × Int × Int × Int × Bool × (List Int) × Bool)) :=
  some (.go (0, a0.2.1, a0.2.2.1, a0.2.2.2.1, a0.2.2.2.2.1, a0.2.2.2.2.2.1, [], v10))
@[simp] noncomputable def J_impl_NodeOkx4 (a0 : SNode) (v13 : Bool) : Option (Ex Bool (Int × ByteArray × Int × Int × Int × Bool × (List Int) × Bool)) :=
  some (.go (0, a0.2.1, 0, a0.2.2.2.1, 0, a0.2.2.2.2.2.1, a0.2.2.2.2.2.2.1, v13))
@[simp] noncomputable def J_impl_NodeOkx5 (a0 : SNode) (v17 : Bool) : Option (Ex Bool (Int × ByteArray × Int × Int × Int × Bool × (List Int) × Bool)) :=
  some (.go (0, a0.2.1, a0.2.2.1, a0.2.2.2.1, 0, false, a0.2.2.2.2.2.2.1, v17))
@[simp] noncomputable def J_impl_NodeOkx6 (a0 : SNode) (v18 : Bool) : Option (Ex Bool (Int × ByteArray × Int × Int × Int × Bool × (List Int) × Bool)) :=
  (bif v18 then
  some (.go (0, a0.2.1, a0.2.2.1, a0.2.2.2.1, a0.2.2.2.2.1, a0.2.2.2.2.2.1, a0.2.2.2.2.2.2.1, true))
  else some (.go (0, a0.2.1, a0.2.2.1, a0.2.2.2.1, a0.2.2.2.2.1, a0.2.2.2.2.2.1, a0.2.2.2.2.2.2.1, false)))
@[simp] noncomputable def J_impl_NodeOkx7 (v28 : Bool) : Option Bool :=
  some v28
@[simp] noncomputable def J_impl_NodeOkx0 (v19 : Int) (v20 : ByteArray) (v21 : Int) (v22 : Int) (v23 : Int) (v24 : Bool) (v25 : List Int) (v26 : Bool) : Option Bool :=
  joinK ((bif v26 then
  (F_impl_sameNode (v19, (v20, (v21, (v22, (v23, (v24, (v25, ()))))))) (0, (ByteArray.empty, (0, (0, (0, (false, ([], ())))))))).bind (fun y27 => some (.go y27))
  else some (.go false)))
  (fun s => J_impl_NodeOkx7 s)
theorem U_impl_NodeOk (a0 : SNode) : Le (joinK ((bif (a0.1 == 0) then
  (F_impl_WordOk a0.2.1).bind (fun y1 => some (.go (0, ByteArray.empty, a0.2.2.1, a0.2.2.2.1, a0.2.2.2.2.1, a0.2.2.2.2.2.1, a0.2.2.2.2.2.2.1, y1)))
  else (bif (a0.1 == 1) then
  joinK ((F_impl_isCol a0.2.2.1).bind (fun y2 => (bif y2 then
  (F_impl_in a0.2.2.2.1 0 3).bind (fun y3 => some (.go y3))
  else some (.go false))))
  (fun s => J_impl_NodeOkx1 a0 s)
  else (bif (a0.1 == 2) then
  joinK ((F_impl_in (a0.2.2.2.2.2.2.1.length : Int) 1 6).bind (fun y8 => (bif y8 then
  (F_slices_ContainsFunc_Lint_impl_NodeOk_1 a0.2.2.2.2.2.2.1).bind (fun y9 => some (.go (!y9)))
  else some (.go false))))
  (fun s => J_impl_NodeOkx3 a0 s)
  else (bif (a0.1 == 3) then
  joinK ((F_impl_isCol a0.2.2.1).bind (fun y11 => (bif y11 then
  (F_impl_isCol a0.2.2.2.2.1).bind (fun y12 => some (.go y12))
  else some (.go false))))
  (fun s => J_impl_NodeOkx4 a0 s)
  else (bif (a0.1 == 5) then
  (F_impl_isCol a0.2.2.1).bind (fun y14 => some (.go (0, a0.2.1, 0, a0.2.2.2.1, a0.2.2.2.2.1, a0.2.2.2.2.2.1, a0.2.2.2.2.2.2.1, y14)))
  else (bif (a0.1 == 6) then
  joinK ((F_impl_in a0.2.2.2.2.1 0 1000000).bind (fun y15 => (bif y15 then
  (bif (!a0.2.2.2.2.2.1) then
  some (.go true)
  else (F_impl_isSlot a0.2.2.2.2.1).bind (fun y16 => some (.go y16)))
  else some (.go false))))
  (fun s => J_impl_NodeOkx5 a0 s)
  else joinK ((bif (a0.1 == 4) then
  some (.go true)
  else some (.go (a0.1 == 7))))
  (fun s => J_impl_NodeOkx6 a0 s))))))))
  (fun s => J_impl_NodeOkx0 s.1 s.2.1 s.2.2.1 s.2.2.2.1 s.2.2.2.2.1 s.2.2.2.2.2.1 s.2.2.2.2.2.2.1 s.2.2.2.2.2.2.2)) (F_impl_NodeOk a0) := callL_le (tt := tt) (FT := FT) (SP := SP) (j := 68) rfl (by kernel_rfl)
theorem U_impl_isCol (a0 : Int) : Le ((F_impl_in a0 0 63).bind (fun y1 => some y1)) (F_impl_isCol a0) := callL_le (tt := tt) (FT := FT) (SP := SP) (j := 69) rfl (by kernel_rfl)
theorem U_impl_isSlot (a0 : Int) : Le ((F_impl_in a0 0 39).bind (fun y1 => some y1)) (F_impl_isSlot a0) := callL_le (tt := tt) (FT := FT) (SP := SP) (j := 70) rfl (by kernel_rfl)
theorem U_impl_isNum (a0 : Int) : Le ((F_impl_in a0 (-1000000) 1000000).bind (fun y1 => some y1)) (F_impl_isNum a0) := callL_le (tt := tt) (FT := FT) (SP := SP) (j := 71) rfl (by kernel_rfl)
theorem U_slices_ContainsFunc_Lint_impl_NodeOk_1 (a0 : List Int) : Le ((F_slices_IndexFunc_Lint_impl_NodeOk_1 a0).bind (fun y1 => some (decide (y1 ≥ 0)))) (F_slices_ContainsFunc_Lint_impl_NodeOk_1 a0) := callL_le (tt := tt) (FT := FT) (SP := SP) (j := 72) rfl (by kernel_rfl)
noncomputable def L_slices_IndexFunc_Lint_impl_NodeOk_1x0 (a0 : List Int) (f0 : (Int × Int) → Option (Ex Int Int)) (v1 : Int) (v2 : Int) : Option (Ex Int Int) :=
  (bif (decide (v2 < (a0.length : Int))) then
  (ix a0 v2).bind (fun z3 => (F_impl_NodeOk_1 z3).bind (fun y4 => (bif y4 then
  some (.ret v2)
  else f0 (v1, (IntKind.i64.wrap (v2 + 1))))))
  else some (.go v1))
@[simp] noncomputable def J_slices_IndexFunc_Lint_impl_NodeOk_1x0 (v5 : Int) : Option Int :=
  some (-1)
theorem U_slices_IndexFunc_Lint_impl_NodeOk_1 (a0 : List Int) : Le (joinK (loopF (fun f s => L_slices_IndexFunc_Lint_impl_NodeOk_1x0 a0 f s.1 s.2) (0, 0))
  (fun s => J_slices_IndexFunc_Lint_impl_NodeOk_1x0 s)) (F_slices_IndexFunc_Lint_impl_NodeOk_1 a0) := callL_le (tt := tt) (FT := FT) (SP := SP) (j := 73) rfl (by kernel_rfl)
theorem U_impl_NodeOk_1 (a0 : Int) : Le ((F_impl_isCol a0).bind (fun y1 => some (!y1))) (F_impl_NodeOk_1 a0) := callL_le (tt := tt) (FT := FT) (SP := SP) (j := 74) rfl (by kernel_rfl)
@[simp] noncomputable def J_impl_sameNodex0 (v2 : Bool) : Option Bool :=
  some v2
theorem U_impl_sameNode (a0 : SNode) (a1 : SNode) : Le (joinK ((bif (a0.1 == a1.1) then
  (bif (a0.2.1.toList == a1.2.1.toList) then
  (bif (a0.2.2.1 == a1.2.2.1) then
  (bif (a0.2.2.2.1 == a1.2.2.2.1) then
  (bif (a0.2.2.2.2.1 == a1.2.2.2.2.1) then
  (bif (a0.2.2.2.2.2.1 == a1.2.2.2.2.2.1) then
  (F_slices_Equal_Lint a0.2.2.2.2.2.2.1 a1.2.2.2.2.2.2.1).bind (fun y1 => some (.go y1))
  else some (.go false))
  else some (.go false))
  else some (.go false))
  else some (.go false))
  else some (.go false))
  else some (.go false)))
  (fun s => J_impl_sameNodex0 s)) (F_impl_sameNode a0 a1) := callL_le (tt := tt) (FT := FT) (SP := SP) (j := 75) rfl (by kernel_rfl)
noncomputable def L_slices_Equal_Lintx0 (a0 : List Int) (a1 : List Int) (f0 : (Bool × Int) → Option (Ex Bool Bool)) (v1 : Bool) (v2 : Int) : Option (Ex Bool Bool) :=
  (bif (decide (v2 < (a0.length : Int))) then
  (ix a0 v2).bind (fun z3 => (ix a1 v2).bind (fun z4 => (bif (z3 != z4) then
  some (.ret false)
  else f0 (v1, (IntKind.i64.wrap (v2 + 1))))))
  else some (.go v1))
@[simp] noncomputable def J_slices_Equal_Lintx0 (v5 : Bool) : Option Bool :=
  some true
theorem U_slices_Equal_Lint (a0 : List Int) (a1 : List Int) : Le ((bif ((a0.length : Int) != (a1.length : Int)) then
  some false
  else joinK (loopF (fun f s => L_slices_Equal_Lintx0 a0 a1 f s.1 s.2) (false, 0))
  (fun s => J_slices_Equal_Lintx0 s))) (F_slices_Equal_Lint a0 a1) := callL_le (tt := tt) (FT := FT) (SP := SP) (j := 76) rfl (by kernel_rfl)
noncomputable def L_impl_endx0 (a0 : List SNode) (a2 : Int) (y3 : Int) (f0 : (Int × Int × Int) → Option (Ex Int (Int × Int))) (v4 : Int) (v5 : Int) (v6 : Int) : Option (Ex Int (Int × Int)) :=
  (bif (decide (v6 < y3)) then
  (F_impl_end a0 v5 (IntKind.i64.wrap (a2 + 1))).bind (fun y7 => (bif (decide (y7 < 0)) then
  some (.ret (-1))
  else f0 (v4, y7, (IntKind.i64.wrap (v6 + 1)))))
  else some (.go (v4, v5)))
@[simp] noncomputable def J_impl_endx1 (v8 : Int) (v9 : Int) : Option Int :=
  some v9
@[simp] noncomputable def J_impl_endx0 (a0 : List SNode) (a1 : Int) (a2 : Int) (v1 : Bool) : Option Int :=
  (bif v1 then
  some (-1)
  else joinK ((ix a0 a1).bind (fun z2 => (F_impl_ArityOf z2.1).bind (fun y3 => loopF (fun f s => L_impl_endx0 a0 a2 y3 f s.1 s.2.1 s.2.2) (0, (IntKind.i64.wrap (a1 + 1)), 0))))
  (fun s => J_impl_endx1 s.1 s.2))
theorem U_impl_end (a0 : List SNode) (a1 : Int) (a2 : Int) : Le (joinK ((bif (decide (a1 ≥ (a0.length : Int))) then
  some (.go true)
  else some (.go (decide (a2 > 10)))))
  (fun s => J_impl_endx0 a0 a1 a2 s)) (F_impl_end a0 a1 a2) := callL_le (tt := tt) (FT := FT) (SP := SP) (j := 77) rfl (by kernel_rfl)
@[simp] noncomputable def J_impl_ArityOfx1 (v2 : Bool) : Option Int :=
  (bif v2 then
  some 1
  else some (-1))
@[simp] noncomputable def J_impl_ArityOfx0 (a0 : Int) (v1 : Bool) : Option Int :=
  (bif v1 then
  some 2
  else joinK ((bif (a0 == 1) then
  some (.go true)
  else (bif (a0 == 2) then
  some (.go true)
  else (bif (a0 == 5) then
  some (.go true)
  else (bif (a0 == 6) then
  some (.go true)
  else some (.go (a0 == 7)))))))
  (fun s => J_impl_ArityOfx1 s))
theorem U_impl_ArityOf (a0 : Int) : Le ((bif (a0 == 0) then
  some 0
  else joinK ((bif (a0 == 3) then
  some (.go true)
  else some (.go (a0 == 4))))
  (fun s => J_impl_ArityOfx0 a0 s))) (F_impl_ArityOf a0) := callL_le (tt := tt) (FT := FT) (SP := SP) (j := 78) rfl (by kernel_rfl)
noncomputable def L_impl_widthx0 (a0 : List STable) (a1 : List SNode) (y1 : List Int) (f0 : (Int × (List Int) × Int) → Option (Ex Int (Int × (List Int)))) (v2 : Int) (v3 : List Int) (v4 : Int) : Option (Ex Int (Int × (List Int))) :=
  (bif (decide (v4 < (y1.length : Int))) then
  (ix y1 v4).bind (fun z5 => (F_impl_width a0 a1 z5).bind (fun y6 => (bif (decide (y6 < 0)) then
  some (.ret (-1))
  else (apx v3 ([y6])).bind (fun z7 => f0 (v2, z7, (IntKind.i64.wrap (v4 + 1)))))))
  else some (.go (v2, v3)))
@[simp] noncomputable def J_impl_widthx3 (v9 : List Int) (v21 : Bool) : Option (Ex Int Int) :=
  (bif v21 then
  some (.ret (-1))
  else (ix v9 0).bind (fun z22 => (ix v9 1).bind (fun z23 => some (.ret (IntKind.i64.wrap (z22 + z23))))))
@[simp] noncomputable def J_impl_widthx2 (v8 : Int) (v9 : List Int) (z10 : SNode) (v13 : Bool) : Option (Ex Int Int) :=
  (bif v13 then
  (ix v9 0).bind (fun z14 => (bif (decide (z10.2.2.1 ≥ z14)) then
  some (.ret (-1))
  else some (.go v8)))
  else (bif (z10.1 == 2) then
  (F_slices_Max_Lint z10.2.2.2.2.2.2.1).bind (fun y15 => (ix v9 0).bind (fun z16 => (bif (decide (y15 ≥ z16)) then
  some (.ret (-1))
  else some (.ret (z10.2.2.2.2.2.2.1.length : Int)))))
  else (bif (z10.1 == 3) then
  joinK ((ix v9 0).bind (fun z17 => (bif (decide (z10.2.2.1 ≥ z17)) then
  some (.go true)
  else (ix v9 1).bind (fun z18 => (bif (decide (z10.2.2.2.2.1 ≥ z18)) then
  some (.go true)
  else (ix v9 0).bind (fun z19 => (ix v9 1).bind (fun z20 => some (.go (decide ((IntKind.i64.wrap (z19 + z20)) > 64))))))))))
  (fun s => J_impl_widthx3 v9 s)
  else (bif (z10.1 == 4) then
  (ix v9 0).bind (fun z24 => (ix v9 1).bind (fun z25 => (bif (z24 != z25) then
  some (.ret (-1))
  else some (.go v8))))
  else some (.go v8)))))
@[simp] noncomputable def J_impl_widthx1 (v9 : List Int) (v26 : Int) : Option Int :=
  (ix v9 0).bind (fun z27 => some z27)
@[simp] noncomputable def J_impl_widthx0 (a0 : List STable) (a1 : List SNode) (a2 : Int) (v8 : Int) (v9 : List Int) : Option Int :=
  (ix a1 a2).bind (fun z10 => joinK ((bif (z10.1 == 0) then
  (F_impl_tableAt a0 z10.2.1).bind (fun y11 => (bif (decide (y11 < 0)) then
  some (.ret (-1))
  else (ix a0 y11).bind (fun z12 => some (.ret z12.2.1))))
  else joinK ((bif (z10.1 == 1) then
  some (.go true)
  else some (.go (z10.1 == 5))))
  (fun s => J_impl_widthx2 v8 v9 z10 s)))
  (fun s => J_impl_widthx1 v9 s))
theorem U_impl_width (a0 : List STable) (a1 : List SNode) (a2 : Int) : Le (joinK ((F_impl_children a1 a2).bind (fun y1 => loopF (fun f s => L_impl_widthx0 a0 a1 y1 f s.1 s.2.1 s.2.2) (0, [], 0)))
  (fun s => J_impl_widthx0 a0 a1 a2 s.1 s.2)) (F_impl_width a0 a1 a2) := callL_le (tt := tt) (FT := FT) (SP := SP) (j := 79) rfl (by kernel_rfl)
noncomputable def L_impl_childrenx0 (a0 : List SNode) (y2 : Int) (f0 : ((List Int) × Int × Int) → Option (Ex (List Int) (List Int))) (v3 : List Int) (v4 : Int) (v5 : Int) : Option (Ex (List Int) (List Int)) :=
  (bif (decide (v5 < y2)) then
  (apx v3 ([v4])).bind (fun z6 => (F_impl_end a0 v4 1).bind (fun y7 => f0 (z6, y7, (IntKind.i64.wrap (v5 + 1)))))
  else some (.go v3))
@[simp] noncomputable def J_impl_childrenx0 (v8 : List Int) : Option (List Int) :=
  some v8
theorem U_impl_children (a0 : List SNode) (a1 : Int) : Le (joinK ((ix a0 a1).bind (fun z1 => (F_impl_ArityOf z1.1).bind (fun y2 => loopF (fun f s => L_impl_childrenx0 a0 y2 f s.1 s.2.1 s.2.2) ([], (IntKind.i64.wrap (a1 + 1)), 0))))
  (fun s => J_impl_childrenx0 s)) (F_impl_children a0 a1) := callL_le (tt := tt) (FT := FT) (SP := SP) (j := 80) rfl (by kernel_rfl)
theorem U_impl_tableAt (a0 : List STable) (a1 : ByteArray) : Le ((F_slices_IndexFunc_LimplTable_impl_tableAt_1 a0 a1).bind (fun y1 => some y1.1)) (F_impl_tableAt a0 a1) := callL_le (tt := tt) (FT := FT) (SP := SP) (j := 81) rfl (by kernel_rfl)
noncomputable def L_slices_IndexFunc_LimplTable_impl_tableAt_1x0 (a0 : List STable) (f0 : (Int × Int × ByteArray) → Option (Ex (Int × ByteArray) (Int × ByteArray))) (v1 : Int) (v2 : Int) (v3 : ByteArray) : Option (Ex (Int × ByteArray) (Int × ByteArray)) :=
  (bif (decide (v2 < (a0.length : Int))) then
  (ix a0 v2).bind (fun z4 => (F_impl_tableAt_1 z4 v3).bind (fun y5 => (bif y5.1 then
  some (.ret (v2, y5.2))
  else f0 (v1, (IntKind.i64.wrap (v2 + 1)), y5.2))))
  else some (.go (v1, v3)))
@[simp] noncomputable def J_slices_IndexFunc_LimplTable_impl_tableAt_1x0 (v6 : Int) (v7 : ByteArray) : Option (Int × ByteArray) :=
  some ((-1), v7)
theorem U_slices_IndexFunc_LimplTable_impl_tableAt_1 (a0 : List STable) (a1x0x0 : ByteArray) : Le (joinK (loopF (fun f s => L_slices_IndexFunc_LimplTable_impl_tableAt_1x0 a0 f s.1 s.2.1 s.2.2) (0, 0, a1x0x0))
  (fun s => J_slices_IndexFunc_LimplTable_impl_tableAt_1x0 s.1 s.2)) (F_slices_IndexFunc_LimplTable_impl_tableAt_1 a0 a1x0x0) := callL_le (tt := tt) (FT := FT) (SP := SP) (j := 82) rfl (by kernel_rfl)
theorem U_impl_tableAt_1 (a0 : STable) (c0x0 : ByteArray) : Le (some ((a0.1.toList == c0x0.toList), c0x0)) (F_impl_tableAt_1 a0 c0x0) := callL_le (tt := tt) (FT := FT) (SP := SP) (j := 83) rfl (by kernel_rfl)
noncomputable def L_slices_Max_Lintx0 (a0 : List Int) (f0 : (Int × Int) → Option (Ex Int Int)) (v2 : Int) (v3 : Int) : Option (Ex Int Int) :=
  (bif (decide (v3 < (a0.length : Int))) then
  (ix a0 v3).bind (fun z4 => f0 ((mmx true v2 z4), (IntKind.i64.wrap (v3 + 1))))
  else some (.go v2))
@[simp] noncomputable def J_slices_Max_Lintx1 (v5 : Int) : Option Int :=
  some v5
@[simp] noncomputable def J_slices_Max_Lintx0 (a0 : List Int) : Option Int :=
  (ix a0 0).bind (fun z1 => joinK (loopF (fun f s => L_slices_Max_Lintx0 a0 f s.1 s.2) (z1, 1))
  (fun s => J_slices_Max_Lintx1 s))
theorem U_slices_Max_Lint (a0 : List Int) : Le (joinK ((bif (decide ((a0.length : Int) < 1)) then
  none
  else some (.go ())))
  (fun _ => J_slices_Max_Lintx0 a0)) (F_slices_Max_Lint a0) := callL_le (tt := tt) (FT := FT) (SP := SP) (j := 84) rfl (by kernel_rfl)
noncomputable def L_impl_PrintOfx0 (y1 : ((List Int) × Bool)) (f0 : (Int × Int) → Option (Ex Int Int)) (v2 : Int) (v3 : Int) : Option (Ex Int Int) :=
  (bif (decide (v3 < (y1.1.length : Int))) then
  (ix y1.1 v3).bind (fun z4 => (remx (IntKind.i64.wrap ((IntKind.i64.wrap (31 * v2)) + (IntKind.i64.wrap z4))) 251).bind (fun z5 => f0 (z5, (IntKind.i64.wrap (v3 + 1)))))
  else some (.go v2))
@[simp] noncomputable def J_impl_PrintOfx0 (v6 : Int) : Option Int :=
  some v6
theorem U_impl_PrintOf (a0 : List SNode) : Le ((F_impl_EncodePlan a0).bind (fun y1 => (bif (!y1.2) then
  some (-1)
  else joinK (loopF (fun f s => L_impl_PrintOfx0 y1 f s.1 s.2) (97, 0))
  (fun s => J_impl_PrintOfx0 s)))) (F_impl_PrintOf a0) := callL_le (tt := tt) (FT := FT) (SP := SP) (j := 85) rfl (by kernel_rfl)
noncomputable def L_impl_EncodePlanx0 (a0 : List SNode) (f0 : ((List Int) × Int) → Option (Ex ((List Int) × Bool) (List Int))) (v3 : List Int) (v4 : Int) : Option (Ex ((List Int) × Bool) (List Int)) :=
  (bif (decide (v4 < (a0.length : Int))) then
  (ix a0 v4).bind (fun z5 => (F_impl_PutNode (z5.1, (z5.2.1, (z5.2.2.1, (z5.2.2.2.1, (z5.2.2.2.2.1, (z5.2.2.2.2.2.1, (z5.2.2.2.2.2.2.1, ())))))))).bind (fun y6 => (apx v3 y6).bind (fun z7 => f0 (z7, (IntKind.i64.wrap (v4 + 1))))))
  else some (.go v3))
@[simp] noncomputable def J_impl_EncodePlanx0 (v8 : List Int) : Option ((List Int) × Bool) :=
  (F_impl_Frame v8).bind (fun y9 => some (y9.1, y9.2))
theorem U_impl_EncodePlan (a0 : List SNode) : Le ((F_impl_PlanOk a0).bind (fun y1 => (bif (!y1) then
  some ([], false)
  else (F_impl_PutNum (a0.length : Int)).bind (fun y2 => joinK (loopF (fun f s => L_impl_EncodePlanx0 a0 f s.1 s.2) (y2, 0))
  (fun s => J_impl_EncodePlanx0 s))))) (F_impl_EncodePlan a0) := callL_le (tt := tt) (FT := FT) (SP := SP) (j := 86) rfl (by kernel_rfl)
noncomputable def L_impl_PutNumx0 (f0 : (Int × (List Int)) → Option (Ex (List Int) (Int × (List Int)))) (v3 : Int) (v4 : List Int) : Option (Ex (List Int) (Int × (List Int))) :=
  (bif (decide (v3 ≥ 128)) then
  (remx v3 128).bind (fun z5 => (apx v4 ([(IntKind.u8.wrap (IntKind.i64.wrap (z5 + 128)))])).bind (fun z6 => (quox v3 128).bind (fun z7 => f0 (z7, z6))))
  else some (.go (v3, v4)))
@[simp] noncomputable def J_impl_PutNumx1 (v8 : Int) (v9 : List Int) : Option (List Int) :=
  (apx v9 ([(IntKind.u8.wrap v8)])).bind (fun z10 => some z10)
@[simp] noncomputable def J_impl_PutNumx0 (v2 : Int) : Option (List Int) :=
  joinK (loopF (fun f s => L_impl_PutNumx0 f s.1 s.2) (v2, []))
  (fun s => J_impl_PutNumx1 s.1 s.2)
theorem U_impl_PutNum (a0 : Int) : Le ((F_impl_isNum a0).bind (fun y1 => (bif (!y1) then
  some ([])
  else joinK ((bif (decide (a0 < 0)) then
  some (.go (IntKind.i64.wrap ((IntKind.i64.wrap ((-2) * a0)) - 1)))
  else some (.go (IntKind.i64.wrap (2 * a0)))))
  (fun s => J_impl_PutNumx0 s)))) (F_impl_PutNum a0) := callL_le (tt := tt) (FT := FT) (SP := SP) (j := 87) rfl (by kernel_rfl)
theorem U_impl_PutNode (a0 : SNode) : Le ((F_impl_NodeOk (a0.1, (a0.2.1, (a0.2.2.1, (a0.2.2.2.1, (a0.2.2.2.2.1, (a0.2.2.2.2.2.1, (a0.2.2.2.2.2.2.1, ())))))))).bind (fun y1 => (bif (!y1) then
  some ([])
  else (F_impl_PutNum a0.1).bind (fun y2 => (bif (a0.1 == 0) then
  (F_impl_PutWord a0.2.1).bind (fun y3 => (apx y2 y3).bind (fun z4 => some z4))
  else (bif (a0.1 == 1) then
  (F_impl_flag a0.2.2.2.2.2.1).bind (fun y5 => (F_impl_putAll ([a0.2.2.1, a0.2.2.2.1, y5, a0.2.2.2.2.1])).bind (fun y6 => (apx y2 y6).bind (fun z7 => some z7)))
  else (bif (a0.1 == 2) then
  (F_impl_PutNums a0.2.2.2.2.2.2.1).bind (fun y8 => (apx y2 y8).bind (fun z9 => some z9))
  else (bif (a0.1 == 3) then
  (F_impl_putAll ([a0.2.2.1, a0.2.2.2.2.1])).bind (fun y10 => (apx y2 y10).bind (fun z11 => some z11))
  else (bif (a0.1 == 5) then
  (F_impl_putAll ([a0.2.2.1])).bind (fun y12 => (apx y2 y12).bind (fun z13 => some z13))
  else (bif (a0.1 == 6) then
  (F_impl_flag a0.2.2.2.2.2.1).bind (fun y14 => (F_impl_putAll ([y14, a0.2.2.2.2.1])).bind (fun y15 => (apx y2 y15).bind (fun z16 => some z16)))
  else some y2)))))))))) (F_impl_PutNode a0) := callL_le (tt := tt) (FT := FT) (SP := SP) (j := 88) rfl (by kernel_rfl)
theorem U_impl_PutWord (a0 : ByteArray) : Le ((F_impl_WordOk a0).bind (fun y1 => (bif (!y1) then
  some ([])
  else (F_impl_PutNum (a0.size : Int)).bind (fun y2 => (apx y2 (bytesOf a0)).bind (fun z3 => some z3))))) (F_impl_PutWord a0) := callL_le (tt := tt) (FT := FT) (SP := SP) (j := 89) rfl (by kernel_rfl)
theorem U_impl_flag (a0 : Bool) : Le ((bif a0 then
  some 1
  else some 0)) (F_impl_flag a0) := callL_le (tt := tt) (FT := FT) (SP := SP) (j := 90) rfl (by kernel_rfl)
noncomputable def L_impl_putAllx0 (a0 : List Int) (f0 : ((List Int) × Int) → Option (Ex (List Int) (List Int))) (v1 : List Int) (v2 : Int) : Option (Ex (List Int) (List Int)) :=
  (bif (decide (v2 < (a0.length : Int))) then
  (ix a0 v2).bind (fun z3 => (F_impl_PutNum z3).bind (fun y4 => (apx v1 y4).bind (fun z5 => f0 (z5, (IntKind.i64.wrap (v2 + 1))))))
  else some (.go v1))
@[simp] noncomputable def J_impl_putAllx0 (v6 : List Int) : Option (List Int) :=
  some v6
theorem U_impl_putAll (a0 : List Int) : Le (joinK (loopF (fun f s => L_impl_putAllx0 a0 f s.1 s.2) ([], 0))
  (fun s => J_impl_putAllx0 s)) (F_impl_putAll a0) := callL_le (tt := tt) (FT := FT) (SP := SP) (j := 91) rfl (by kernel_rfl)
noncomputable def L_impl_PutNumsx0 (a0 : List Int) (f0 : ((List Int) × (List Int) × Int) → Option (Ex (List Int) ((List Int) × (List Int)))) (v2 : List Int) (v3 : List Int) (v4 : Int) : Option (Ex (List Int) ((List Int) × (List Int))) :=
  (bif (decide (v4 < (a0.length : Int))) then
  (ix a0 v4).bind (fun z5 => (F_impl_isNum z5).bind (fun y6 => (bif (!y6) then
  some (.ret ([]))
  else (F_impl_PutNum z5).bind (fun y7 => (apx v3 y7).bind (fun z8 => f0 (v2, z8, (IntKind.i64.wrap (v4 + 1))))))))
  else some (.go (v2, v3)))
@[simp] noncomputable def J_impl_PutNumsx0 (v9 : List Int) (v10 : List Int) : Option (List Int) :=
  some v10
theorem U_impl_PutNums (a0 : List Int) : Le ((bif (decide ((a0.length : Int) > 300)) then
  some ([])
  else (F_impl_PutNum (a0.length : Int)).bind (fun y1 => joinK (loopF (fun f s => L_impl_PutNumsx0 a0 f s.1 s.2.1 s.2.2) ([], y1, 0))
  (fun s => J_impl_PutNumsx0 s.1 s.2)))) (F_impl_PutNums a0) := callL_le (tt := tt) (FT := FT) (SP := SP) (j := 92) rfl (by kernel_rfl)
theorem U_impl_Frame (a0 : List Int) : Le ((bif (decide ((a0.length : Int) > 4000)) then
  some ([], false)
  else (bif (([80, 83]) : List Int).isEmpty then none else some (([80, 83]) : List Int)).bind (fun z1 => (F_impl_PutNum (a0.length : Int)).bind (fun y2 => (F_impl_CheckOf a0).bind (fun y3 => (F_impl_PutNum y3).bind (fun y4 => (F_slices_Concat_Lbyte ([z1, y2, a0, y4])).bind (fun y5 => some (y5, true)))))))) (F_impl_Frame a0) := callL_le (tt := tt) (FT := FT) (SP := SP) (j := 93) rfl (by kernel_rfl)
noncomputable def L_impl_CheckOfx0 (a0 : List Int) (f0 : (Int × Int) → Option (Ex Int Int)) (v1 : Int) (v2 : Int) : Option (Ex Int Int) :=
  (bif (decide (v2 < (a0.length : Int))) then
  (ix a0 v2).bind (fun z3 => (remx (IntKind.i64.wrap ((IntKind.i64.wrap (269 * v1)) + (IntKind.i64.wrap z3))) 999983).bind (fun z4 => f0 (z4, (IntKind.i64.wrap (v2 + 1)))))
  else some (.go v1))
@[simp] noncomputable def J_impl_CheckOfx0 (v5 : Int) : Option Int :=
  some v5
theorem U_impl_CheckOf (a0 : List Int) : Le (joinK (loopF (fun f s => L_impl_CheckOfx0 a0 f s.1 s.2) (5, 0))
  (fun s => J_impl_CheckOfx0 s)) (F_impl_CheckOf a0) := callL_le (tt := tt) (FT := FT) (SP := SP) (j := 94) rfl (by kernel_rfl)
@[simp] noncomputable def J_slices_Concat_Lbytex1 (v2 : Int) (f0 : (Int × Int) → Option (Ex (List Int) Int)) (v4 : Int) : Option (Ex (List Int) Int) :=
  f0 (v4, (IntKind.i64.wrap (v2 + 1)))
noncomputable def L_slices_Concat_Lbytex0 (a0 : List (List Int)) (f0 : (Int × Int) → Option (Ex (List Int) Int)) (v1 : Int) (v2 : Int) : Option (Ex (List Int) Int) :=
  (bif (decide (v2 < (a0.length : Int))) then
  joinK ((ix a0 v2).bind (fun z3 => (bif (decide ((IntKind.i64.wrap (v1 + (z3.length : Int))) < 0)) then
  none
  else some (.go (IntKind.i64.wrap (v1 + (z3.length : Int)))))))
  (fun s => J_slices_Concat_Lbytex1 v2 f0 s)
  else some (.go v1))
noncomputable def L_slices_Concat_Lbytex1 (a0 : List (List Int)) (f1 : ((List Int) × Int) → Option (Ex (List Int) (List Int))) (v7 : List Int) (v8 : Int) : Option (Ex (List Int) (List Int)) :=
  (bif (decide (v8 < (a0.length : Int))) then
  (ix a0 v8).bind (fun z9 => (apx v7 z9).bind (fun z10 => f1 (z10, (IntKind.i64.wrap (v8 + 1)))))
  else some (.go v7))
@[simp] noncomputable def J_slices_Concat_Lbytex2 (v11 : List Int) : Option (List Int) :=
  some v11
@[simp] noncomputable def J_slices_Concat_Lbytex0 (a0 : List (List Int)) (v5 : Int) : Option (List Int) :=
  (F_slices_Grow_Lbyte v5).bind (fun y6 => joinK (loopF (fun f s => L_slices_Concat_Lbytex1 a0 f s.1 s.2) (y6, 0))
  (fun s => J_slices_Concat_Lbytex2 s))
theorem U_slices_Concat_Lbyte (a0 : List (List Int)) : Le (joinK (loopF (fun f s => L_slices_Concat_Lbytex0 a0 f s.1 s.2) (0, 0))
  (fun s => J_slices_Concat_Lbytex0 a0 s)) (F_slices_Concat_Lbyte a0) := callL_le (tt := tt) (FT := FT) (SP := SP) (j := 95) rfl (by kernel_rfl)
theorem U_slices_Grow_Lbyte (a1 : Int) : Le ((bif (decide (a1 < 0)) then
  none
  else (bif (decide ((IntKind.i64.wrap (a1 - (IntKind.i64.wrap (0 - 0)))) > 0)) then
  (mkx (IntKind.i64.wrap (a1 - (IntKind.i64.wrap (0 - 0)))) (0 : Int)).bind (fun z1 => (tkx z1 0).bind (fun z2 => some z2))
  else some ([])))) (F_slices_Grow_Lbyte a1) := callL_le (tt := tt) (FT := FT) (SP := SP) (j := 96) rfl (by kernel_rfl)
@[simp] noncomputable def J_impl_SlotsOfx1 (v3 : Int) (f0 : ((List Int) × Int) → Option (Ex (List Int) (List Int))) (v6 : List Int) : Option (Ex (List Int) (List Int)) :=
  f0 (v6, (IntKind.i64.wrap (v3 + 1)))
noncomputable def L_impl_SlotsOfx0 (a0 : List SNode) (f0 : ((List Int) × Int) → Option (Ex (List Int) (List Int))) (v2 : List Int) (v3 : Int) : Option (Ex (List Int) (List Int)) :=
  (bif (decide (v3 < (a0.length : Int))) then
  joinK ((ix a0 v3).bind (fun z4 => (bif z4.2.2.2.2.2.1 then
  (apx v2 ([z4.2.2.2.2.1])).bind (fun z5 => some (.go z5))
  else some (.go v2))))
  (fun s => J_impl_SlotsOfx1 v3 f0 s)
  else some (.go v2))
@[simp] noncomputable def J_impl_SlotsOfx0 (v7 : List Int) : Option (List Int) :=
  (F_slices_Sort_Lint v7).bind (fun y8 => (F_slices_Compact_Lint y8).bind (fun y9 => some y9))
theorem U_impl_SlotsOf (a0 : List SNode) : Le ((F_impl_PlanOk a0).bind (fun y1 => (bif (!y1) then
  some ([])
  else joinK (loopF (fun f s => L_impl_SlotsOfx0 a0 f s.1 s.2) ([], 0))
  (fun s => J_impl_SlotsOfx0 s)))) (F_impl_SlotsOf a0) := callL_le (tt := tt) (FT := FT) (SP := SP) (j := 97) rfl (by kernel_rfl)
theorem U_slices_Sort_Lint (a0 : List Int) : Le (sortF a0) (F_slices_Sort_Lint a0) := callL_sp (tt := tt) (FT := FT) (SP := SP) (j := 98) (v := (show InVals (FT 98) from ((a0, ()), (())))) (f := fun v => sortF v.1.1) rfl
theorem U_slices_Compact_Lint (a0 : List Int) : Le (some (compI a0)) (F_slices_Compact_Lint a0) := callL_sp (tt := tt) (FT := FT) (SP := SP) (j := 99) (v := (show InVals (FT 99) from ((a0, ()), (())))) (f := fun v => some (compI v.1.1)) rfl
@[simp] noncomputable def J_impl_SlotsOkx0 (v3 : Bool) : Option Bool :=
  some v3
theorem U_impl_SlotsOk (a0 : List SNode) (a1 : Int) : Le (joinK ((F_impl_PlanOk a0).bind (fun y1 => (bif y1 then
  (F_slices_ContainsFunc_LimplNode_impl_SlotsOk_1 a0 a1).bind (fun y2 => some (.go (!y2.1)))
  else some (.go false))))
  (fun s => J_impl_SlotsOkx0 s)) (F_impl_SlotsOk a0 a1) := callL_le (tt := tt) (FT := FT) (SP := SP) (j := 100) rfl (by kernel_rfl)
theorem U_slices_ContainsFunc_LimplNode_impl_SlotsOk_1 (a0 : List SNode) (a1x0x0 : Int) : Le ((F_slices_IndexFunc_LimplNode_impl_SlotsOk_1 a0 a1x0x0).bind (fun y1 => some ((decide (y1.1 ≥ 0)), y1.2))) (F_slices_ContainsFunc_LimplNode_impl_SlotsOk_1 a0 a1x0x0) := callL_le (tt := tt) (FT := FT) (SP := SP) (j := 101) rfl (by kernel_rfl)
noncomputable def L_slices_IndexFunc_LimplNode_impl_SlotsOk_1x0 (a0 : List SNode) (f0 : (Int × Int × Int) → Option (Ex (Int × Int) (Int × Int))) (v1 : Int) (v2 : Int) (v3 : Int) : Option (Ex (Int × Int) (Int × Int)) :=
  (bif (decide (v2 < (a0.length : Int))) then
  (ix a0 v2).bind (fun z4 => (F_impl_SlotsOk_1 z4 v3).bind (fun y5 => (bif y5.1 then
  some (.ret (v2, y5.2))
  else f0 (v1, (IntKind.i64.wrap (v2 + 1)), y5.2))))
  else some (.go (v1, v3)))
@[simp] noncomputable def J_slices_IndexFunc_LimplNode_impl_SlotsOk_1x0 (v6 : Int) (v7 : Int) : Option (Int × Int) :=
  some ((-1), v7)
theorem U_slices_IndexFunc_LimplNode_impl_SlotsOk_1 (a0 : List SNode) (a1x0x0 : Int) : Le (joinK (loopF (fun f s => L_slices_IndexFunc_LimplNode_impl_SlotsOk_1x0 a0 f s.1 s.2.1 s.2.2) (0, 0, a1x0x0))
  (fun s => J_slices_IndexFunc_LimplNode_impl_SlotsOk_1x0 s.1 s.2)) (F_slices_IndexFunc_LimplNode_impl_SlotsOk_1 a0 a1x0x0) := callL_le (tt := tt) (FT := FT) (SP := SP) (j := 102) rfl (by kernel_rfl)
@[simp] noncomputable def J_impl_SlotsOk_1x0 (c0x0 : Int) (v1 : Bool) : Option (Bool × Int) :=
  some (v1, c0x0)
theorem U_impl_SlotsOk_1 (a0 : SNode) (c0x0 : Int) : Le (joinK ((bif a0.2.2.2.2.2.1 then
  some (.go (decide (a0.2.2.2.2.1 ≥ c0x0)))
  else some (.go false)))
  (fun s => J_impl_SlotsOk_1x0 c0x0 s)) (F_impl_SlotsOk_1 a0 c0x0) := callL_le (tt := tt) (FT := FT) (SP := SP) (j := 103) rfl (by kernel_rfl)
theorem U_impl_SamePlan (a0 : List SNode) (a1 : List SNode) : Le ((F_slices_EqualFunc_LimplNode_impl_sameNode a0 a1).bind (fun y1 => some y1)) (F_impl_SamePlan a0 a1) := callL_le (tt := tt) (FT := FT) (SP := SP) (j := 104) rfl (by kernel_rfl)
noncomputable def L_slices_EqualFunc_LimplNode_impl_sameNodex0 (a0 : List SNode) (a1 : List SNode) (f0 : (Bool × Int) → Option (Ex Bool Bool)) (v1 : Bool) (v2 : Int) : Option (Ex Bool Bool) :=
  (bif (decide (v2 < (a0.length : Int))) then
  (ix a0 v2).bind (fun z3 => (ix a1 v2).bind (fun z4 => (F_impl_sameNode (z3.1, (z3.2.1, (z3.2.2.1, (z3.2.2.2.1, (z3.2.2.2.2.1, (z3.2.2.2.2.2.1, (z3.2.2.2.2.2.2.1, ()))))))) (z4.1, (z4.2.1, (z4.2.2.1, (z4.2.2.2.1, (z4.2.2.2.2.1, (z4.2.2.2.2.2.1, (z4.2.2.2.2.2.2.1, ())))))))).bind (fun y5 => (bif (!y5) then
  some (.ret false)
  else f0 (v1, (IntKind.i64.wrap (v2 + 1)))))))
  else some (.go v1))
@[simp] noncomputable def J_slices_EqualFunc_LimplNode_impl_sameNodex0 (v6 : Bool) : Option Bool :=
  some true
theorem U_slices_EqualFunc_LimplNode_impl_sameNode (a0 : List SNode) (a1 : List SNode) : Le ((bif ((a0.length : Int) != (a1.length : Int)) then
  some false
  else joinK (loopF (fun f s => L_slices_EqualFunc_LimplNode_impl_sameNodex0 a0 a1 f s.1 s.2) (false, 0))
  (fun s => J_slices_EqualFunc_LimplNode_impl_sameNodex0 s))) (F_slices_EqualFunc_LimplNode_impl_sameNode a0 a1) := callL_le (tt := tt) (FT := FT) (SP := SP) (j := 105) rfl (by kernel_rfl)
noncomputable def L_laws_eqIntSx0 (a0 : List Int) (a1 : List Int) (f0 : (Bool × Int) → Option (Ex Bool Bool)) (v1 : Bool) (v2 : Int) : Option (Ex Bool Bool) :=
  (bif (decide (v2 < (a0.length : Int))) then
  (ix a0 v2).bind (fun z3 => (ix a1 v2).bind (fun z4 => (bif (z3 != z4) then
  some (.ret false)
  else f0 (v1, (IntKind.i64.wrap (v2 + 1))))))
  else some (.go v1))
@[simp] noncomputable def J_laws_eqIntSx0 (v5 : Bool) : Option Bool :=
  some true
theorem U_laws_eqIntS (a0 : List Int) (a1 : List Int) : Le ((bif ((a0.length : Int) != (a1.length : Int)) then
  some false
  else joinK (loopF (fun f s => L_laws_eqIntSx0 a0 a1 f s.1 s.2) (false, 0))
  (fun s => J_laws_eqIntSx0 s))) (F_laws_eqIntS a0 a1) := callL_le (tt := tt) (FT := FT) (SP := SP) (j := 106) rfl (by kernel_rfl)
theorem U_laws_eqShelf (a0 : SShelf) (a1 : SShelf) : Le ((bif (a0.1 != a1.1) then
  some false
  else (F_laws_eqTableS a0.2.1 a1.2.1).bind (fun y1 => (bif (!y1) then
  some false
  else (F_laws_eqEntryS a0.2.2.1 a1.2.2.1).bind (fun y2 => (bif (!y2) then
  some false
  else (bif (a0.2.2.2.1 != a1.2.2.2.1) then
  some false
  else (bif (a0.2.2.2.2.1 != a1.2.2.2.2.1) then
  some false
  else (bif (a0.2.2.2.2.2.1 != a1.2.2.2.2.2.1) then
  some false
  else (bif (a0.2.2.2.2.2.2.1 != a1.2.2.2.2.2.2.1) then
  some false
  else (bif (a0.2.2.2.2.2.2.2.1 != a1.2.2.2.2.2.2.2.1) then
  some false
  else (bif (a0.2.2.2.2.2.2.2.2.1 != a1.2.2.2.2.2.2.2.2.1) then
  some false
  else some true)))))))))))) (F_laws_eqShelf a0 a1) := callL_le (tt := tt) (FT := FT) (SP := SP) (j := 107) rfl (by kernel_rfl)
noncomputable def L_laws_eqTableSx0 (a0 : List STable) (a1 : List STable) (f0 : (Bool × Int) → Option (Ex Bool Bool)) (v1 : Bool) (v2 : Int) : Option (Ex Bool Bool) :=
  (bif (decide (v2 < (a0.length : Int))) then
  (ix a0 v2).bind (fun z3 => (ix a1 v2).bind (fun z4 => (F_laws_eqTable z3 z4).bind (fun y5 => (bif (!y5) then
  some (.ret false)
  else f0 (v1, (IntKind.i64.wrap (v2 + 1)))))))
  else some (.go v1))
@[simp] noncomputable def J_laws_eqTableSx0 (v6 : Bool) : Option Bool :=
  some true
theorem U_laws_eqTableS (a0 : List STable) (a1 : List STable) : Le ((bif ((a0.length : Int) != (a1.length : Int)) then
  some false
  else joinK (loopF (fun f s => L_laws_eqTableSx0 a0 a1 f s.1 s.2) (false, 0))
  (fun s => J_laws_eqTableSx0 s))) (F_laws_eqTableS a0 a1) := callL_le (tt := tt) (FT := FT) (SP := SP) (j := 108) rfl (by kernel_rfl)
theorem U_laws_eqTable (a0 : STable) (a1 : STable) : Le ((bif (!(a0.1.toList == a1.1.toList)) then
  some false
  else (bif (a0.2.1 != a1.2.1) then
  some false
  else some true))) (F_laws_eqTable a0 a1) := callL_le (tt := tt) (FT := FT) (SP := SP) (j := 109) rfl (by kernel_rfl)
noncomputable def L_laws_eqEntrySx0 (a0 : List SEntry) (a1 : List SEntry) (f0 : (Bool × Int) → Option (Ex Bool Bool)) (v1 : Bool) (v2 : Int) : Option (Ex Bool Bool) :=
  (bif (decide (v2 < (a0.length : Int))) then
  (ix a0 v2).bind (fun z3 => (ix a1 v2).bind (fun z4 => (F_laws_eqEntry z3 z4).bind (fun y5 => (bif (!y5) then
  some (.ret false)
  else f0 (v1, (IntKind.i64.wrap (v2 + 1)))))))
  else some (.go v1))
@[simp] noncomputable def J_laws_eqEntrySx0 (v6 : Bool) : Option Bool :=
  some true
theorem U_laws_eqEntryS (a0 : List SEntry) (a1 : List SEntry) : Le ((bif ((a0.length : Int) != (a1.length : Int)) then
  some false
  else joinK (loopF (fun f s => L_laws_eqEntrySx0 a0 a1 f s.1 s.2) (false, 0))
  (fun s => J_laws_eqEntrySx0 s))) (F_laws_eqEntryS a0 a1) := callL_le (tt := tt) (FT := FT) (SP := SP) (j := 110) rfl (by kernel_rfl)
theorem U_laws_eqEntry (a0 : SEntry) (a1 : SEntry) : Le ((bif (a0.1 != a1.1) then
  some false
  else (F_laws_eqNodeS a0.2.1 a1.2.1).bind (fun y1 => (bif (!y1) then
  some false
  else (F_laws_eqNodeS a0.2.2.1 a1.2.2.1).bind (fun y2 => (bif (!y2) then
  some false
  else (bif (a0.2.2.2.1 != a1.2.2.2.1) then
  some false
  else (bif (a0.2.2.2.2.1 != a1.2.2.2.2.1) then
  some false
  else some true)))))))) (F_laws_eqEntry a0 a1) := callL_le (tt := tt) (FT := FT) (SP := SP) (j := 111) rfl (by kernel_rfl)
noncomputable def L_laws_eqNodeSx0 (a0 : List SNode) (a1 : List SNode) (f0 : (Bool × Int) → Option (Ex Bool Bool)) (v1 : Bool) (v2 : Int) : Option (Ex Bool Bool) :=
  (bif (decide (v2 < (a0.length : Int))) then
  (ix a0 v2).bind (fun z3 => (ix a1 v2).bind (fun z4 => (F_laws_eqNode z3 z4).bind (fun y5 => (bif (!y5) then
  some (.ret false)
  else f0 (v1, (IntKind.i64.wrap (v2 + 1)))))))
  else some (.go v1))
@[simp] noncomputable def J_laws_eqNodeSx0 (v6 : Bool) : Option Bool :=
  some true
theorem U_laws_eqNodeS (a0 : List SNode) (a1 : List SNode) : Le ((bif ((a0.length : Int) != (a1.length : Int)) then
  some false
  else joinK (loopF (fun f s => L_laws_eqNodeSx0 a0 a1 f s.1 s.2) (false, 0))
  (fun s => J_laws_eqNodeSx0 s))) (F_laws_eqNodeS a0 a1) := callL_le (tt := tt) (FT := FT) (SP := SP) (j := 112) rfl (by kernel_rfl)
theorem U_laws_eqNode (a0 : SNode) (a1 : SNode) : Le ((bif (a0.1 != a1.1) then
  some false
  else (bif (!(a0.2.1.toList == a1.2.1.toList)) then
  some false
  else (bif (a0.2.2.1 != a1.2.2.1) then
  some false
  else (bif (a0.2.2.2.1 != a1.2.2.2.1) then
  some false
  else (bif (a0.2.2.2.2.1 != a1.2.2.2.2.1) then
  some false
  else (bif (a0.2.2.2.2.2.1 != a1.2.2.2.2.2.1) then
  some false
  else (F_laws_eqIntS a0.2.2.2.2.2.2.1 a1.2.2.2.2.2.2.1).bind (fun y1 => (bif (!y1) then
  some false
  else some true))))))))) (F_laws_eqNode a0 a1) := callL_le (tt := tt) (FT := FT) (SP := SP) (j := 113) rfl (by kernel_rfl)
theorem U_laws_markShelf (a0 : SShelf) (a1 : Int) : Le ((F_laws_markTableS a0.2.1 a1).bind (fun y1 => (F_laws_markEntryS a0.2.2.1 y1.1).bind (fun y2 => some y2.1))) (F_laws_markShelf a0 a1) := callL_le (tt := tt) (FT := FT) (SP := SP) (j := 114) rfl (by kernel_rfl)
noncomputable def L_laws_markTableSx0 (f0 : (Int × Int × (List STable)) → Option (Ex (Int × (List STable)) (Int × (List STable)))) (v1 : Int) (v2 : Int) (v3 : List STable) : Option (Ex (Int × (List STable)) (Int × (List STable))) :=
  (bif (decide (v2 < (v3.length : Int))) then
  (F_laws_markText v1).bind (fun y4 => (ix v3 v2).bind (fun z5 => (ix v3 v2).bind (fun z6 => (ix (v3.set (v2).toNat (y4, z6.2)) v2).bind (fun z7 => (ix (v3.set (v2).toNat (y4, z6.2)) v2).bind (fun z8 => f0 ((IntKind.i64.wrap ((IntKind.i64.wrap (v1 + 1)) + 1)), (IntKind.i64.wrap (v2 + 1)), ((v3.set (v2).toNat (y4, z6.2)).set (v2).toNat (z8.1, ((IntKind.i64.wrap (v1 + 1)), z8.2.2)))))))))
  else some (.go (v1, v3)))
@[simp] noncomputable def J_laws_markTableSx0 (v9 : Int) (v10 : List STable) : Option (Int × (List STable)) :=
  some (v9, v10)
theorem U_laws_markTableS (a0 : List STable) (a1 : Int) : Le (joinK (loopF (fun f s => L_laws_markTableSx0 f s.1 s.2.1 s.2.2) (a1, 0, a0))
  (fun s => J_laws_markTableSx0 s.1 s.2)) (F_laws_markTableS a0 a1) := callL_le (tt := tt) (FT := FT) (SP := SP) (j := 115) rfl (by kernel_rfl)
noncomputable def L_laws_markTextx0 (f0 : (Int × ByteArray) → Option (Ex ByteArray ByteArray)) (v1 : Int) (v2 : ByteArray) : Option (Ex ByteArray ByteArray) :=
  (bif (decide (v1 > 0)) then
  (remx v1 10).bind (fun z3 => (addx (bsOf ([(IntKind.u8.wrap (IntKind.i64.wrap (48 + z3)))])) v2).bind (fun z4 => (quox v1 10).bind (fun z5 => f0 (z5, z4))))
  else some (.go v2))
@[simp] noncomputable def J_laws_markTextx0 (v6 : ByteArray) : Option ByteArray :=
  (addx (⟨#[109]⟩ : ByteArray) v6).bind (fun z7 => some z7)
theorem U_laws_markText (a0 : Int) : Le ((bif (decide (a0 ≤ 0)) then
  some (⟨#[109, 48]⟩ : ByteArray)
  else joinK (loopF (fun f s => L_laws_markTextx0 f s.1 s.2) (a0, ByteArray.empty))
  (fun s => J_laws_markTextx0 s))) (F_laws_markText a0) := callL_le (tt := tt) (FT := FT) (SP := SP) (j := 116) rfl (by kernel_rfl)
noncomputable def L_laws_markEntrySx0 (f0 : (Int × Int × (List SEntry)) → Option (Ex (Int × (List SEntry)) (Int × (List SEntry)))) (v1 : Int) (v2 : Int) (v3 : List SEntry) : Option (Ex (Int × (List SEntry)) (Int × (List SEntry))) :=
  (bif (decide (v2 < (v3.length : Int))) then
  (ix v3 v2).bind (fun z4 => (ix v3 v2).bind (fun z5 => (ix (v3.set (v2).toNat (v1, z5.2)) v2).bind (fun z6 => (ix (v3.set (v2).toNat (v1, z5.2)) v2).bind (fun z7 => (bind2 (ix (v3.set (v2).toNat (v1, z5.2)) v2) (fun z8 => F_laws_markNodeS z8.2.1 (IntKind.i64.wrap (v1 + 1)))).bind (fun y9 => (ix ((v3.set (v2).toNat (v1, z5.2)).set (v2).toNat (y9.1.1, (y9.2.2, y9.1.2.2))) v2).bind (fun z10 => (ix ((v3.set (v2).toNat (v1, z5.2)).set (v2).toNat (y9.1.1, (y9.2.2, y9.1.2.2))) v2).bind (fun z11 => (bind2 (ix ((v3.set (v2).toNat (v1, z5.2)).set (v2).toNat (y9.1.1, (y9.2.2, y9.1.2.2))) v2) (fun z12 => F_laws_markNodeS z12.2.2.1 y9.2.1)).bind (fun y13 => (ix (((v3.set (v2).toNat (v1, z5.2)).set (v2).toNat (y9.1.1, (y9.2.2, y9.1.2.2))).set (v2).toNat (y13.1.1, (y13.1.2.1, (y13.2.2, y13.1.2.2.2)))) v2).bind (fun z14 => (ix (((v3.set (v2).toNat (v1, z5.2)).set (v2).toNat (y9.1.1, (y9.2.2, y9.1.2.2))).set (v2).toNat (y13.1.1, (y13.1.2.1, (y13.2.2, y13.1.2.2.2)))) v2).bind (fun z15 => (ix ((((v3.set (v2).toNat (v1, z5.2)).set (v2).toNat (y9.1.1, (y9.2.2, y9.1.2.2))).set (v2).toNat (y13.1.1, (y13.1.2.1, (y13.2.2, y13.1.2.2.2)))).set (v2).toNat (z15.1, (z15.2.1, (z15.2.2.1, (y13.2.1, z15.2.2.2.2))))) v2).bind (fun z16 => (ix ((((v3.set (v2).toNat (v1, z5.2)).set (v2).toNat (y9.1.1, (y9.2.2, y9.1.2.2))).set (v2).toNat (y13.1.1, (y13.1.2.1, (y13.2.2, y13.1.2.2.2)))).set (v2).toNat (z15.1, (z15.2.1, (z15.2.2.1, (y13.2.1, z15.2.2.2.2))))) v2).bind (fun z17 => f0 ((IntKind.i64.wrap ((IntKind.i64.wrap (y13.2.1 + 1)) + 1)), (IntKind.i64.wrap (v2 + 1)), (((((v3.set (v2).toNat (v1, z5.2)).set (v2).toNat (y9.1.1, (y9.2.2, y9.1.2.2))).set (v2).toNat (y13.1.1, (y13.1.2.1, (y13.2.2, y13.1.2.2.2)))).set (v2).toNat (z15.1, (z15.2.1, (z15.2.2.1, (y13.2.1, z15.2.2.2.2))))).set (v2).toNat (z17.1, (z17.2.1, (z17.2.2.1, (z17.2.2.2.1, ((IntKind.i64.wrap (y13.2.1 + 1)), z17.2.2.2.2.2)))))))))))))))))))
  else some (.go (v1, v3)))
@[simp] noncomputable def J_laws_markEntrySx0 (v18 : Int) (v19 : List SEntry) : Option (Int × (List SEntry)) :=
  some (v18, v19)
theorem U_laws_markEntryS (a0 : List SEntry) (a1 : Int) : Le (joinK (loopF (fun f s => L_laws_markEntrySx0 f s.1 s.2.1 s.2.2) (a1, 0, a0))
  (fun s => J_laws_markEntrySx0 s.1 s.2)) (F_laws_markEntryS a0 a1) := callL_le (tt := tt) (FT := FT) (SP := SP) (j := 117) rfl (by kernel_rfl)
noncomputable def L_laws_markNodeSx0 (f0 : (Int × Int × (List SNode)) → Option (Ex (Int × (List SNode)) (Int × (List SNode)))) (v1 : Int) (v2 : Int) (v3 : List SNode) : Option (Ex (Int × (List SNode)) (Int × (List SNode))) :=
  (bif (decide (v2 < (v3.length : Int))) then
  (ix v3 v2).bind (fun z4 => (ix v3 v2).bind (fun z5 => (F_laws_markText (IntKind.i64.wrap (v1 + 1))).bind (fun y6 => (ix (v3.set (v2).toNat (v1, z5.2)) v2).bind (fun z7 => (ix (v3.set (v2).toNat (v1, z5.2)) v2).bind (fun z8 => (ix ((v3.set (v2).toNat (v1, z5.2)).set (v2).toNat (z8.1, (y6, z8.2.2))) v2).bind (fun z9 => (ix ((v3.set (v2).toNat (v1, z5.2)).set (v2).toNat (z8.1, (y6, z8.2.2))) v2).bind (fun z10 => (ix (((v3.set (v2).toNat (v1, z5.2)).set (v2).toNat (z8.1, (y6, z8.2.2))).set (v2).toNat (z10.1, (z10.2.1, ((IntKind.i64.wrap ((IntKind.i64.wrap (v1 + 1)) + 1)), z10.2.2.2)))) v2).bind (fun z11 => (ix (((v3.set (v2).toNat (v1, z5.2)).set (v2).toNat (z8.1, (y6, z8.2.2))).set (v2).toNat (z10.1, (z10.2.1, ((IntKind.i64.wrap ((IntKind.i64.wrap (v1 + 1)) + 1)), z10.2.2.2)))) v2).bind (fun z12 => (ix ((((v3.set (v2).toNat (v1, z5.2)).set (v2).toNat (z8.1, (y6, z8.2.2))).set (v2).toNat (z10.1, (z10.2.1, ((IntKind.i64.wrap ((IntKind.i64.wrap (v1 + 1)) + 1)), z10.2.2.2)))).set (v2).toNat (z12.1, (z12.2.1, (z12.2.2.1, ((IntKind.i64.wrap ((IntKind.i64.wrap ((IntKind.i64.wrap (v1 + 1)) + 1)) + 1)), z12.2.2.2.2))))) v2).bind (fun z13 => (ix ((((v3.set (v2).toNat (v1, z5.2)).set (v2).toNat (z8.1, (y6, z8.2.2))).set (v2).toNat (z10.1, (z10.2.1, ((IntKind.i64.wrap ((IntKind.i64.wrap (v1 + 1)) + 1)), z10.2.2.2)))).set (v2).toNat (z12.1, (z12.2.1, (z12.2.2.1, ((IntKind.i64.wrap ((IntKind.i64.wrap ((IntKind.i64.wrap (v1 + 1)) + 1)) + 1)), z12.2.2.2.2))))) v2).bind (fun z14 => (remx (IntKind.i64.wrap ((IntKind.i64.wrap ((IntKind.i64.wrap ((IntKind.i64.wrap ((IntKind.i64.wrap (v1 + 1)) + 1)) + 1)) + 1)) + 1)) 3).bind (fun z15 => (ix (((((v3.set (v2).toNat (v1, z5.2)).set (v2).toNat (z8.1, (y6, z8.2.2))).set (v2).toNat (z10.1, (z10.2.1, ((IntKind.i64.wrap ((IntKind.i64.wrap (v1 + 1)) + 1)), z10.2.2.2)))).set (v2).toNat (z12.1, (z12.2.1, (z12.2.2.1, ((IntKind.i64.wrap ((IntKind.i64.wrap ((IntKind.i64.wrap (v1 + 1)) + 1)) + 1)), z12.2.2.2.2))))).set (v2).toNat (z14.1, (z14.2.1, (z14.2.2.1, (z14.2.2.2.1, ((IntKind.i64.wrap ((IntKind.i64.wrap ((IntKind.i64.wrap ((IntKind.i64.wrap (v1 + 1)) + 1)) + 1)) + 1)), z14.2.2.2.2.2)))))) v2).bind (fun z16 => (ix (((((v3.set (v2).toNat (v1, z5.2)).set (v2).toNat (z8.1, (y6, z8.2.2))).set (v2).toNat (z10.1, (z10.2.1, ((IntKind.i64.wrap ((IntKind.i64.wrap (v1 + 1)) + 1)), z10.2.2.2)))).set (v2).toNat (z12.1, (z12.2.1, (z12.2.2.1, ((IntKind.i64.wrap ((IntKind.i64.wrap ((IntKind.i64.wrap (v1 + 1)) + 1)) + 1)), z12.2.2.2.2))))).set (v2).toNat (z14.1, (z14.2.1, (z14.2.2.1, (z14.2.2.2.1, ((IntKind.i64.wrap ((IntKind.i64.wrap ((IntKind.i64.wrap ((IntKind.i64.wrap (v1 + 1)) + 1)) + 1)) + 1)), z14.2.2.2.2.2)))))) v2).bind (fun z17 => (ix ((((((v3.set (v2).toNat (v1, z5.2)).set (v2).toNat (z8.1, (y6, z8.2.2))).set (v2).toNat (z10.1, (z10.2.1, ((IntKind.i64.wrap ((IntKind.i64.wrap (v1 + 1)) + 1)), z10.2.2.2)))).set (v2).toNat (z12.1, (z12.2.1, (z12.2.2.1, ((IntKind.i64.wrap ((IntKind.i64.wrap ((IntKind.i64.wrap (v1 + 1)) + 1)) + 1)), z12.2.2.2.2))))).set (v2).toNat (z14.1, (z14.2.1, (z14.2.2.1, (z14.2.2.2.1, ((IntKind.i64.wrap ((IntKind.i64.wrap ((IntKind.i64.wrap ((IntKind.i64.wrap (v1 + 1)) + 1)) + 1)) + 1)), z14.2.2.2.2.2)))))).set (v2).toNat (z17.1, (z17.2.1, (z17.2.2.1, (z17.2.2.2.1, (z17.2.2.2.2.1, ((z15 == 0), z17.2.2.2.2.2.2))))))) v2).bind (fun z18 => (ix ((((((v3.set (v2).toNat (v1, z5.2)).set (v2).toNat (z8.1, (y6, z8.2.2))).set (v2).toNat (z10.1, (z10.2.1, ((IntKind.i64.wrap ((IntKind.i64.wrap (v1 + 1)) + 1)), z10.2.2.2)))).set (v2).toNat (z12.1, (z12.2.1, (z12.2.2.1, ((IntKind.i64.wrap ((IntKind.i64.wrap ((IntKind.i64.wrap (v1 + 1)) + 1)) + 1)), z12.2.2.2.2))))).set (v2).toNat (z14.1, (z14.2.1, (z14.2.2.1, (z14.2.2.2.1, ((IntKind.i64.wrap ((IntKind.i64.wrap ((IntKind.i64.wrap ((IntKind.i64.wrap (v1 + 1)) + 1)) + 1)) + 1)), z14.2.2.2.2.2)))))).set (v2).toNat (z17.1, (z17.2.1, (z17.2.2.1, (z17.2.2.2.1, (z17.2.2.2.2.1, ((z15 == 0), z17.2.2.2.2.2.2))))))) v2).bind (fun z19 => (bind2 (ix ((((((v3.set (v2).toNat (v1, z5.2)).set (v2).toNat (z8.1, (y6, z8.2.2))).set (v2).toNat (z10.1, (z10.2.1, ((IntKind.i64.wrap ((IntKind.i64.wrap (v1 + 1)) + 1)), z10.2.2.2)))).set (v2).toNat (z12.1, (z12.2.1, (z12.2.2.1, ((IntKind.i64.wrap ((IntKind.i64.wrap ((IntKind.i64.wrap (v1 + 1)) + 1)) + 1)), z12.2.2.2.2))))).set (v2).toNat (z14.1, (z14.2.1, (z14.2.2.1, (z14.2.2.2.1, ((IntKind.i64.wrap ((IntKind.i64.wrap ((IntKind.i64.wrap ((IntKind.i64.wrap (v1 + 1)) + 1)) + 1)) + 1)), z14.2.2.2.2.2)))))).set (v2).toNat (z17.1, (z17.2.1, (z17.2.2.1, (z17.2.2.2.1, (z17.2.2.2.2.1, ((z15 == 0), z17.2.2.2.2.2.2))))))) v2) (fun z20 => F_laws_markIntS z20.2.2.2.2.2.2.1 (IntKind.i64.wrap ((IntKind.i64.wrap ((IntKind.i64.wrap ((IntKind.i64.wrap ((IntKind.i64.wrap ((IntKind.i64.wrap (v1 + 1)) + 1)) + 1)) + 1)) + 1)) + 1)))).bind (fun y21 => f0 (y21.2.1, (IntKind.i64.wrap (v2 + 1)), (((((((v3.set (v2).toNat (v1, z5.2)).set (v2).toNat (z8.1, (y6, z8.2.2))).set (v2).toNat (z10.1, (z10.2.1, ((IntKind.i64.wrap ((IntKind.i64.wrap (v1 + 1)) + 1)), z10.2.2.2)))).set (v2).toNat (z12.1, (z12.2.1, (z12.2.2.1, ((IntKind.i64.wrap ((IntKind.i64.wrap ((IntKind.i64.wrap (v1 + 1)) + 1)) + 1)), z12.2.2.2.2))))).set (v2).toNat (z14.1, (z14.2.1, (z14.2.2.1, (z14.2.2.2.1, ((IntKind.i64.wrap ((IntKind.i64.wrap ((IntKind.i64.wrap ((IntKind.i64.wrap (v1 + 1)) + 1)) + 1)) + 1)), z14.2.2.2.2.2)))))).set (v2).toNat (z17.1, (z17.2.1, (z17.2.2.1, (z17.2.2.2.1, (z17.2.2.2.2.1, ((z15 == 0), z17.2.2.2.2.2.2))))))).set (v2).toNat (y21.1.1, (y21.1.2.1, (y21.1.2.2.1, (y21.1.2.2.2.1, (y21.1.2.2.2.2.1, (y21.1.2.2.2.2.2.1, (y21.2.2, y21.1.2.2.2.2.2.2.2))))))))))))))))))))))))))
  else some (.go (v1, v3)))
@[simp] noncomputable def J_laws_markNodeSx0 (v22 : Int) (v23 : List SNode) : Option (Int × (List SNode)) :=
  some (v22, v23)
theorem U_laws_markNodeS (a0 : List SNode) (a1 : Int) : Le (joinK (loopF (fun f s => L_laws_markNodeSx0 f s.1 s.2.1 s.2.2) (a1, 0, a0))
  (fun s => J_laws_markNodeSx0 s.1 s.2)) (F_laws_markNodeS a0 a1) := callL_le (tt := tt) (FT := FT) (SP := SP) (j := 118) rfl (by kernel_rfl)
noncomputable def L_laws_markIntSx0 (f0 : (Int × Int × (List Int)) → Option (Ex (Int × (List Int)) (Int × (List Int)))) (v1 : Int) (v2 : Int) (v3 : List Int) : Option (Ex (Int × (List Int)) (Int × (List Int))) :=
  (bif (decide (v2 < (v3.length : Int))) then
  (ix v3 v2).bind (fun z4 => (stx v3 v2 v1).bind (fun z5 => f0 ((IntKind.i64.wrap (v1 + 1)), (IntKind.i64.wrap (v2 + 1)), z5)))
  else some (.go (v1, v3)))
@[simp] noncomputable def J_laws_markIntSx0 (v6 : Int) (v7 : List Int) : Option (Int × (List Int)) :=
  some (v6, v7)
theorem U_laws_markIntS (a0 : List Int) (a1 : Int) : Le (joinK (loopF (fun f s => L_laws_markIntSx0 f s.1 s.2.1 s.2.2) (a1, 0, a0))
  (fun s => J_laws_markIntSx0 s.1 s.2)) (F_laws_markIntS a0 a1) := callL_le (tt := tt) (FT := FT) (SP := SP) (j := 119) rfl (by kernel_rfl)
noncomputable def L_laws_heldIntSx0 (a0 : List Int) (f0 : (Int × Int × Int) → Option (Ex Int (Int × Int))) (v1 : Int) (v2 : Int) (v3 : Int) : Option (Ex Int (Int × Int)) :=
  (bif (decide (v3 < (a0.length : Int))) then
  (ix a0 v3).bind (fun z4 => (bif (z4 != v1) then
  some (.ret (-1))
  else f0 ((IntKind.i64.wrap (v1 + 1)), v2, (IntKind.i64.wrap (v3 + 1)))))
  else some (.go (v1, v2)))
@[simp] noncomputable def J_laws_heldIntSx0 (v5 : Int) (v6 : Int) : Option Int :=
  some v5
theorem U_laws_heldIntS (a0 : List Int) (a1 : Int) : Le (joinK (loopF (fun f s => L_laws_heldIntSx0 a0 f s.1 s.2.1 s.2.2) (a1, 0, 0))
  (fun s => J_laws_heldIntSx0 s.1 s.2)) (F_laws_heldIntS a0 a1) := callL_le (tt := tt) (FT := FT) (SP := SP) (j := 120) rfl (by kernel_rfl)
end Go.Proofs.YtpfjldlopeaniaaGreatX
