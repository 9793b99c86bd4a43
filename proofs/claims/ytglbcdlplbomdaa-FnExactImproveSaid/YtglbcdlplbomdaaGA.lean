/- Printed: for each function that the statement reaches, a plain function, and that it is what the program's function answers. -/
import Derived.Test.YtglbcdlplbomdaaProg
import Derived.Test.YtglbcdlplbomdaaTrC
set_option linter.all false
namespace Go.Proofs.YtglbcdlplbomdaaX
open Go Go.Proofs Go.Proofs.YtglbcdlplbomdaaT
set_option maxRecDepth 100000
set_option linter.all false
abbrev STable := ByteArray × Int × Unit
abbrev SNode := Int × ByteArray × Int × Int × Int × Bool × (List Int) × Unit
abbrev SStep := Int × Int × Unit
def ttL : List (Nat × Ty) := [(3, (.int .i64)),
  (4, .bool),
  (5, (.int .u8)),
  (9, .str),
  (22, (.sl 66 (.pr .str (.pr (.int .i64) .un)))),
  (23, (.sl 3 (.int .i64))),
  (24, (.sl 69 (.pr (.int .i64) (.pr .str (.pr (.int .i64) (.pr (.int .i64) (.pr (.int .i64) (.pr .bool (.pr (.sl 3 (.int .i64)) .un))))))))),
  (28, (.sl 71 (.pr .str (.pr (.int .i64) .un)))),
  (31, (.sl 73 (.pr (.int .i64) (.pr .str (.pr (.int .i64) (.pr (.int .i64) (.pr (.int .i64) (.pr .bool (.pr (.sl 3 (.int .i64)) .un))))))))),
  (50, (.pr (.int .i64) (.pr (.int .i64) .un))),
  (54, (.sl 50 (.pr (.int .i64) (.pr (.int .i64) .un)))),
  (66, (.pr .str (.pr (.int .i64) .un))),
  (69, (.pr (.int .i64) (.pr .str (.pr (.int .i64) (.pr (.int .i64) (.pr (.int .i64) (.pr .bool (.pr (.sl 3 (.int .i64)) .un)))))))),
  (71, (.pr .str (.pr (.int .i64) .un))),
  (73, (.pr (.int .i64) (.pr .str (.pr (.int .i64) (.pr (.int .i64) (.pr (.int .i64) (.pr .bool (.pr (.sl 3 (.int .i64)) .un)))))))),
  (112, (.sl 5 (.int .u8))),
  (117, (.sl 31 (.sl 73 (.pr (.int .i64) (.pr .str (.pr (.int .i64) (.pr (.int .i64) (.pr (.int .i64) (.pr .bool (.pr (.sl 3 (.int .i64)) .un))))))))))]
def tt (T : TypeId) : Option Ty := lkT ttL T
theorem tt_ok : TTok Try.prog tt := lkT_ok (by kernel_rfl)
noncomputable def i_laws_FnExactImprove : Inst := { f := 12, fn := Try.f12, n := 156, pds := [.rd (.sl 66 (.pr .str (.pr (.int .i64) .un))), .rd (.sl 3 (.int .i64)), .rd (.sl 69 (.pr (.int .i64) (.pr .str (.pr (.int .i64) (.pr (.int .i64) (.pr (.int .i64) (.pr .bool (.pr (.sl 3 (.int .i64)) .un))))))))], caps := [], res := [⟨false, false, .bool⟩], h := { al := [50, 51, 52, 56, 57, 61, 62, 66, 71, 76, 81, 84, 87, 93, 94, 99, 100, 104, 107, 110, 115, 133, 134, 138, 139, 143, 148], el := [], tk := [], nn := [], ca := [(25, 1), (30, 3), (35, 6), (37, 8), (39, 9), (40, 11), (44, 6), (46, 8), (48, 9), (53, 39), (58, 82), (63, 85), (68, 6), (69, 87), (73, 8), (74, 84), (78, 9), (79, 82), (83, 89), (86, 91), (89, 92), (95, 82), (101, 85), (106, 92), (109, 93), (112, 94), (117, 96), (125, 6), (127, 8), (129, 9), (130, 39), (135, 82), (140, 85), (145, 94), (150, 96)], code := (.two .nil (.two .nil (.two .nil (.two .nil (.two .nil (.two .nil (.two .nil (.two .nil (.two .nil (.two .nil (.two .nil (.two .nil (.two (.join ⟨[], [(65, .v ⟨false, false, .bool⟩)]⟩ .nil .nil) (.two .nil (.two .nil (.two .nil (.two .nil (.two .nil (.two .nil (.two .nil (.two (.join ⟨[], [(103, .v ⟨false, false, .bool⟩)]⟩ .nil .nil) (.two .nil (.two .nil (.two .nil (.two .nil (.two .nil (.two .nil (.two .nil (.two .nil (.two .nil (.two .nil (.two (.join ⟨[], [(142, .v ⟨false, false, .bool⟩)]⟩ .nil .nil) .nil)))))))))))))))))))))))))))))))) } }
noncomputable def i_laws_szTableS : Inst := { f := 13, fn := Try.f13, n := 27, pds := [.rd (.sl 66 (.pr .str (.pr (.int .i64) .un))), .rd (.int .i64)], caps := [], res := [⟨false, false, (.int .i64)⟩], h := { al := [], el := [], tk := [], nn := [], ca := [(23, 2)], code := (.two .nil (.two .nil (.two .nil (.join ⟨[1, 4], [(1, .v ⟨false, false, (.int .i64)⟩), (4, .v ⟨false, false, (.int .i64)⟩)]⟩ (.two .nil (.loop ⟨[1, 4, 5], [(1, .v ⟨false, false, (.int .i64)⟩), (4, .v ⟨false, false, (.int .i64)⟩), (5, .v ⟨false, false, (.int .i64)⟩)]⟩ .nil)) .nil)))) } }
noncomputable def i_laws_szTable : Inst := { f := 54, fn := Try.f54, n := 13, pds := [.rd (.pr .str (.pr (.int .i64) .un)), .rd (.int .i64)], caps := [], res := [⟨false, false, (.int .i64)⟩], h := { al := [], el := [], tk := [], nn := [], ca := [], code := .nil } }
noncomputable def i_laws_szNodeS : Inst := { f := 14, fn := Try.f14, n := 27, pds := [.rd (.sl 69 (.pr (.int .i64) (.pr .str (.pr (.int .i64) (.pr (.int .i64) (.pr (.int .i64) (.pr .bool (.pr (.sl 3 (.int .i64)) .un)))))))), .rd (.int .i64)], caps := [], res := [⟨false, false, (.int .i64)⟩], h := { al := [], el := [], tk := [], nn := [], ca := [(23, 4)], code := (.two .nil (.two .nil (.two .nil (.join ⟨[1, 4], [(1, .v ⟨false, false, (.int .i64)⟩), (4, .v ⟨false, false, (.int .i64)⟩)]⟩ (.two .nil (.loop ⟨[1, 4, 5], [(1, .v ⟨false, false, (.int .i64)⟩), (4, .v ⟨false, false, (.int .i64)⟩), (5, .v ⟨false, false, (.int .i64)⟩)]⟩ .nil)) .nil)))) } }
noncomputable def i_laws_szNode : Inst := { f := 55, fn := Try.f55, n := 19, pds := [.rd (.pr (.int .i64) (.pr .str (.pr (.int .i64) (.pr (.int .i64) (.pr (.int .i64) (.pr .bool (.pr (.sl 3 (.int .i64)) .un))))))), .rd (.int .i64)], caps := [], res := [⟨false, false, (.int .i64)⟩], h := { al := [], el := [], tk := [], nn := [], ca := [(15, 5)], code := .nil } }
noncomputable def i_laws_szIntS : Inst := { f := 83, fn := Try.f83, n := 12, pds := [.rd (.sl 3 (.int .i64)), .rd (.int .i64)], caps := [], res := [⟨false, false, (.int .i64)⟩], h := { al := [], el := [], tk := [], nn := [], ca := [], code := .nil } }
noncomputable def i_laws_toTableS : Inst := { f := 16, fn := Try.f16, n := 23, pds := [.rd (.sl 66 (.pr .str (.pr (.int .i64) .un)))], caps := [], res := [⟨true, true, (.sl 71 (.pr .str (.pr (.int .i64) .un)))⟩], h := { al := [14], el := [21], tk := [], nn := [], ca := [(20, 7)], code := (.two .nil (.two .nil (.join ⟨[3], [(3, .v ⟨true, true, (.sl 71 (.pr .str (.pr (.int .i64) .un)))⟩)]⟩ (.two .nil (.loop ⟨[3, 4], [(3, .v ⟨true, true, (.sl 71 (.pr .str (.pr (.int .i64) .un)))⟩), (4, .v ⟨false, false, (.int .i64)⟩)]⟩ .nil)) .nil))) } }
noncomputable def i_laws_toTable : Inst := { f := 58, fn := Try.f58, n := 11, pds := [.rd (.pr .str (.pr (.int .i64) .un))], caps := [], res := [⟨false, false, (.pr .str (.pr (.int .i64) .un))⟩], h := { al := [], el := [], tk := [], nn := [], ca := [], code := .nil } }
noncomputable def i_laws_toIntS : Inst := { f := 17, fn := Try.f17, n := 22, pds := [.rd (.sl 3 (.int .i64))], caps := [], res := [⟨true, true, (.sl 3 (.int .i64))⟩], h := { al := [14], el := [20], tk := [], nn := [], ca := [], code := (.two .nil (.two .nil (.join ⟨[3], [(3, .v ⟨true, true, (.sl 3 (.int .i64))⟩)]⟩ (.two .nil (.loop ⟨[3, 4], [(3, .v ⟨true, true, (.sl 3 (.int .i64))⟩), (4, .v ⟨false, false, (.int .i64)⟩)]⟩ .nil)) .nil))) } }
noncomputable def i_laws_toNodeS : Inst := { f := 18, fn := Try.f18, n := 23, pds := [.rd (.sl 69 (.pr (.int .i64) (.pr .str (.pr (.int .i64) (.pr (.int .i64) (.pr (.int .i64) (.pr .bool (.pr (.sl 3 (.int .i64)) .un))))))))], caps := [], res := [⟨true, true, (.sl 73 (.pr (.int .i64) (.pr .str (.pr (.int .i64) (.pr (.int .i64) (.pr (.int .i64) (.pr .bool (.pr (.sl 3 (.int .i64)) .un))))))))⟩], h := { al := [14], el := [21], tk := [], nn := [], ca := [(20, 10)], code := (.two .nil (.two .nil (.join ⟨[3], [(3, .v ⟨true, true, (.sl 73 (.pr (.int .i64) (.pr .str (.pr (.int .i64) (.pr (.int .i64) (.pr (.int .i64) (.pr .bool (.pr (.sl 3 (.int .i64)) .un))))))))⟩)]⟩ (.two .nil (.loop ⟨[3, 4], [(3, .v ⟨true, true, (.sl 73 (.pr (.int .i64) (.pr .str (.pr (.int .i64) (.pr (.int .i64) (.pr (.int .i64) (.pr .bool (.pr (.sl 3 (.int .i64)) .un))))))))⟩), (4, .v ⟨false, false, (.int .i64)⟩)]⟩ .nil)) .nil))) } }
noncomputable def i_laws_toNode : Inst := { f := 59, fn := Try.f59, n := 27, pds := [.rd (.pr (.int .i64) (.pr .str (.pr (.int .i64) (.pr (.int .i64) (.pr (.int .i64) (.pr .bool (.pr (.sl 3 (.int .i64)) .un)))))))], caps := [], res := [⟨true, true, (.pr (.int .i64) (.pr .str (.pr (.int .i64) (.pr (.int .i64) (.pr (.int .i64) (.pr .bool (.pr (.sl 3 (.int .i64)) .un)))))))⟩], h := { al := [], el := [], tk := [26], nn := [], ca := [(24, 8)], code := .nil } }
noncomputable def i_spec_Improve : Inst := { f := 52, fn := Try.f52, n := 48, pds := [.rd (.sl 71 (.pr .str (.pr (.int .i64) .un))), .rd (.sl 3 (.int .i64)), .rd (.sl 73 (.pr (.int .i64) (.pr .str (.pr (.int .i64) (.pr (.int .i64) (.pr (.int .i64) (.pr .bool (.pr (.sl 3 (.int .i64)) .un))))))))], caps := [], res := [⟨true, true, (.sl 73 (.pr (.int .i64) (.pr .str (.pr (.int .i64) (.pr (.int .i64) (.pr (.int .i64) (.pr .bool (.pr (.sl 3 (.int .i64)) .un))))))))⟩, ⟨true, true, (.sl 50 (.pr (.int .i64) (.pr (.int .i64) .un)))⟩], h := { al := [21, 27, 37], el := [], tk := [], nn := [], ca := [(13, 12), (17, 14), (28, 33), (39, 35)], code := (.two .nil (.two .nil (.two .nil (.two .nil (.join ⟨[6, 7, 8, 9], [(6, .v ⟨true, true, (.sl 73 (.pr (.int .i64) (.pr .str (.pr (.int .i64) (.pr (.int .i64) (.pr (.int .i64) (.pr .bool (.pr (.sl 3 (.int .i64)) .un))))))))⟩), (7, .v ⟨true, true, (.sl 50 (.pr (.int .i64) (.pr (.int .i64) .un)))⟩), (8, .v ⟨true, true, (.sl 73 (.pr (.int .i64) (.pr .str (.pr (.int .i64) (.pr (.int .i64) (.pr (.int .i64) (.pr .bool (.pr (.sl 3 (.int .i64)) .un))))))))⟩), (9, .v ⟨true, true, (.sl 50 (.pr (.int .i64) (.pr (.int .i64) .un)))⟩)]⟩ (.loop ⟨[6, 7, 8, 9], [(6, .v ⟨true, true, (.sl 73 (.pr (.int .i64) (.pr .str (.pr (.int .i64) (.pr (.int .i64) (.pr (.int .i64) (.pr .bool (.pr (.sl 3 (.int .i64)) .un))))))))⟩), (7, .v ⟨true, true, (.sl 50 (.pr (.int .i64) (.pr (.int .i64) .un)))⟩), (8, .v ⟨true, true, (.sl 73 (.pr (.int .i64) (.pr .str (.pr (.int .i64) (.pr (.int .i64) (.pr (.int .i64) (.pr .bool (.pr (.sl 3 (.int .i64)) .un))))))))⟩), (9, .v ⟨true, true, (.sl 50 (.pr (.int .i64) (.pr (.int .i64) .un)))⟩)]⟩ .nil) .nil))))) } }
noncomputable def i_spec_l02Copy : Inst := { f := 77, fn := Try.f77, n := 37, pds := [.rd (.sl 73 (.pr (.int .i64) (.pr .str (.pr (.int .i64) (.pr (.int .i64) (.pr (.int .i64) (.pr .bool (.pr (.sl 3 (.int .i64)) .un))))))))], caps := [], res := [⟨true, true, (.sl 73 (.pr (.int .i64) (.pr .str (.pr (.int .i64) (.pr (.int .i64) (.pr (.int .i64) (.pr .bool (.pr (.sl 3 (.int .i64)) .un))))))))⟩], h := { al := [], el := [], tk := [33], nn := [], no := true, ca := [(30, 13)], code := (.two .nil (.two .nil (.join ⟨[3], [(3, .v ⟨true, true, (.sl 73 (.pr (.int .i64) (.pr .str (.pr (.int .i64) (.pr (.int .i64) (.pr (.int .i64) (.pr .bool (.pr (.sl 3 (.int .i64)) .un))))))))⟩)]⟩ (.two .nil (.loop ⟨[3, 4], [(3, .v ⟨true, true, (.sl 73 (.pr (.int .i64) (.pr .str (.pr (.int .i64) (.pr (.int .i64) (.pr (.int .i64) (.pr .bool (.pr (.sl 3 (.int .i64)) .un))))))))⟩), (4, .v ⟨false, false, (.int .i64)⟩)]⟩ (.two .nil (.two (.two .nil (.two .nil (.join ⟨[5, 17], [(5, .bx 73 [⟨false, false, (.int .i64)⟩, ⟨false, false, .str⟩, ⟨false, false, (.int .i64)⟩, ⟨false, false, (.int .i64)⟩, ⟨false, false, (.int .i64)⟩, ⟨false, false, .bool⟩, ⟨true, true, (.sl 3 (.int .i64))⟩])]⟩ .nil .nil))) .nil)))) .nil))) } }
noncomputable def i_spec_l01Copy : Inst := { f := 108, fn := Try.f108, n := 20, pds := [.rd (.sl 3 (.int .i64))], caps := [], res := [⟨true, true, (.sl 3 (.int .i64))⟩], h := { al := [], el := [], tk := [], nn := [], ca := [], code := (.two .nil (.two .nil (.join ⟨[3], [(3, .v ⟨true, true, (.sl 3 (.int .i64))⟩)]⟩ (.two .nil (.loop ⟨[3, 4], [(3, .v ⟨true, true, (.sl 3 (.int .i64))⟩), (4, .v ⟨false, false, (.int .i64)⟩)]⟩ .nil)) .nil))) } }
noncomputable def i_spec_CostOf : Inst := { f := 23, fn := Try.f23, n := 29, pds := [.rd (.sl 71 (.pr .str (.pr (.int .i64) .un))), .rd (.sl 3 (.int .i64)), .rd (.sl 73 (.pr (.int .i64) (.pr .str (.pr (.int .i64) (.pr (.int .i64) (.pr (.int .i64) (.pr .bool (.pr (.sl 3 (.int .i64)) .un))))))))], caps := [], res := [⟨false, false, (.int .i64)⟩], h := { al := [], el := [], tk := [], nn := [], ca := [(12, 15), (25, 31), (27, 32)], code := (.two .nil (.two .nil (.two .nil (.join ⟨[7], [(7, .v ⟨false, false, (.int .i64)⟩)]⟩ (.two .nil (.loop ⟨[7, 8], [(7, .v ⟨false, false, (.int .i64)⟩), (8, .v ⟨false, false, (.int .i64)⟩)]⟩ .nil)) .nil)))) } }
noncomputable def i_spec_l12Good : Inst := { f := 56, fn := Try.f56, n := 31, pds := [.rd (.sl 71 (.pr .str (.pr (.int .i64) .un))), .rd (.sl 3 (.int .i64)), .rd (.sl 73 (.pr (.int .i64) (.pr .str (.pr (.int .i64) (.pr (.int .i64) (.pr (.int .i64) (.pr .bool (.pr (.sl 3 (.int .i64)) .un))))))))], caps := [], res := [⟨false, false, .bool⟩], h := { al := [], el := [], tk := [], nn := [], ca := [(10, 16), (29, 20)], code := (.two .nil (.two (.join ⟨[], [(18, .v ⟨false, false, .bool⟩)]⟩ .nil .nil) (.join ⟨[6], [(6, .v ⟨false, false, .bool⟩)]⟩ (.two .nil (.loop ⟨[6, 7], [(6, .v ⟨false, false, .bool⟩), (7, .v ⟨false, false, (.int .i64)⟩)]⟩ .nil)) .nil))) } }
noncomputable def i_spec_TypedOk : Inst := { f := 72, fn := Try.f72, n := 9, pds := [.rd (.sl 71 (.pr .str (.pr (.int .i64) .un))), .rd (.sl 73 (.pr (.int .i64) (.pr .str (.pr (.int .i64) (.pr (.int .i64) (.pr (.int .i64) (.pr .bool (.pr (.sl 3 (.int .i64)) .un))))))))], caps := [], res := [⟨false, false, .bool⟩], h := { al := [], el := [], tk := [], nn := [], ca := [(7, 17)], code := .nil } }
noncomputable def i_spec_WidthOf : Inst := { f := 97, fn := Try.f97, n := 16, pds := [.rd (.sl 71 (.pr .str (.pr (.int .i64) .un))), .rd (.sl 73 (.pr (.int .i64) (.pr .str (.pr (.int .i64) (.pr (.int .i64) (.pr (.int .i64) (.pr .bool (.pr (.sl 3 (.int .i64)) .un))))))))], caps := [], res := [⟨false, false, (.int .i64)⟩], h := { al := [], el := [], tk := [], nn := [], ca := [(6, 18), (10, 22), (15, 28)], code := (.two .nil (.two (.join ⟨[], [(12, .v ⟨false, false, .bool⟩)]⟩ .nil .nil) .nil)) } }
noncomputable def i_spec_SchemaOk : Inst := { f := 119, fn := Try.f119, n := 48, pds := [.rd (.sl 71 (.pr .str (.pr (.int .i64) .un)))], caps := [], res := [⟨false, false, .bool⟩], h := { al := [], el := [], tk := [], nn := [], ca := [(18, 19), (26, 20), (44, 21)], code := (.two .nil (.two .nil (.join ⟨[2], [(2, .v ⟨false, false, .bool⟩)]⟩ (.two .nil (.loop ⟨[2, 3], [(2, .v ⟨false, false, .bool⟩), (3, .v ⟨false, false, (.int .i64)⟩)]⟩ (.two .nil (.two (.join ⟨[], [(47, .v ⟨false, false, .bool⟩)]⟩ .nil .nil) .nil)))) .nil))) } }
noncomputable def i_spec_WordOk : Inst := { f := 134, fn := Try.f134, n := 41, pds := [.rd .str], caps := [], res := [⟨false, false, .bool⟩], h := { al := [], el := [], tk := [], nn := [], ca := [(6, 20)], code := (.two .nil (.two (.join ⟨[], [(12, .v ⟨false, false, .bool⟩)]⟩ .nil .nil) (.join ⟨[2], [(2, .v ⟨false, false, .bool⟩)]⟩ (.two .nil (.loop ⟨[2, 3], [(2, .v ⟨false, false, .bool⟩), (3, .v ⟨false, false, (.int .i64)⟩)]⟩ (.two .nil (.two (.join ⟨[], [(40, .v ⟨false, false, .bool⟩)]⟩ .nil .nil) .nil)))) .nil))) } }
noncomputable def i_spec_l01In : Inst := { f := 84, fn := Try.f84, n := 15, pds := [.rd (.int .i64), .rd (.int .i64), .rd (.int .i64)], caps := [], res := [⟨false, false, .bool⟩], h := { al := [], el := [], tk := [], nn := [], ca := [], code := (.two .nil (.join ⟨[6], [(6, .v ⟨false, false, .bool⟩)]⟩ .nil .nil)) } }
noncomputable def i_spec_l01Less : Inst := { f := 135, fn := Try.f135, n := 37, pds := [.rd .str, .rd .str], caps := [], res := [⟨false, false, .bool⟩], h := { al := [], el := [], tk := [], nn := [], ca := [], code := (.two .nil (.join ⟨[4], [(4, .v ⟨false, false, .bool⟩)]⟩ (.two .nil (.loop ⟨[4, 5], [(4, .v ⟨false, false, .bool⟩), (5, .v ⟨false, false, (.int .i64)⟩)]⟩ (.two (.join ⟨[], [(15, .v ⟨false, false, .bool⟩)]⟩ .nil .nil) .nil))) .nil)) } }
noncomputable def i_spec_PlanOk : Inst := { f := 102, fn := Try.f102, n := 31, pds := [.rd (.sl 73 (.pr (.int .i64) (.pr .str (.pr (.int .i64) (.pr (.int .i64) (.pr (.int .i64) (.pr .bool (.pr (.sl 3 (.int .i64)) .un))))))))], caps := [], res := [⟨false, false, .bool⟩], h := { al := [], el := [], tk := [], nn := [], ca := [(8, 20), (20, 23), (24, 26)], code := (.two .nil (.two .nil (.join ⟨[2], [(2, .v ⟨false, false, .bool⟩)]⟩ (.two .nil (.loop ⟨[2, 3], [(2, .v ⟨false, false, .bool⟩), (3, .v ⟨false, false, (.int .i64)⟩)]⟩ .nil)) .nil))) } }
noncomputable def i_spec_NodeOk : Inst := { f := 121, fn := Try.f121, n := 186, pds := [.rd (.pr (.int .i64) (.pr .str (.pr (.int .i64) (.pr (.int .i64) (.pr (.int .i64) (.pr .bool (.pr (.sl 3 (.int .i64)) .un)))))))], caps := [], res := [⟨false, false, .bool⟩], h := { al := [], el := [], tk := [], nn := [], ca := [(39, 20), (49, 19), (69, 24), (73, 20), (78, 25), (109, 24), (114, 20), (134, 24), (138, 24), (149, 24), (168, 20)], code := (.two .nil (.two (.join ⟨[], [(42, .v ⟨false, false, .bool⟩)]⟩ .nil .nil) (.join ⟨[2], [(2, .v ⟨false, false, .bool⟩)]⟩ (.two .nil (.two .nil (.two (.join ⟨[2], [(2, .v ⟨false, false, .bool⟩)]⟩ .nil .nil) (.two .nil (.two (.join ⟨[2], [(2, .v ⟨false, false, .bool⟩)]⟩ .nil .nil) (.two .nil (.two (.join ⟨[2], [(2, .v ⟨false, false, .bool⟩)]⟩ (.two .nil (.loop ⟨[2, 3], [(2, .v ⟨false, false, .bool⟩), (3, .v ⟨false, false, (.int .i64)⟩)]⟩ .nil)) (.join ⟨[2], [(2, .v ⟨false, false, .bool⟩)]⟩ .nil .nil)) (.two .nil (.two (.join ⟨[2], [(2, .v ⟨false, false, .bool⟩)]⟩ .nil .nil) (.two .nil (.two (.join ⟨[2], [(2, .v ⟨false, false, .bool⟩)]⟩ .nil .nil) (.two .nil (.two (.join ⟨[2], [(2, .v ⟨false, false, .bool⟩)]⟩ .nil .nil) (.join ⟨[], [(170, .v ⟨false, false, .bool⟩)]⟩ .nil (.two (.join ⟨[2], [(2, .v ⟨false, false, .bool⟩)]⟩ .nil .nil) .nil))))))))))))))) .nil))) } }
noncomputable def i_spec_l02Col : Inst := { f := 136, fn := Try.f136, n := 5, pds := [.rd (.int .i64)], caps := [], res := [⟨false, false, .bool⟩], h := { al := [], el := [], tk := [], nn := [], ca := [(4, 20)], code := .nil } }
noncomputable def i_spec_l01Number : Inst := { f := 137, fn := Try.f137, n := 5, pds := [.rd (.int .i64)], caps := [], res := [⟨false, false, .bool⟩], h := { al := [], el := [], tk := [], nn := [], ca := [(4, 20)], code := .nil } }
noncomputable def i_spec_l02End : Inst := { f := 100, fn := Try.f100, n := 51, pds := [.rd (.sl 73 (.pr (.int .i64) (.pr .str (.pr (.int .i64) (.pr (.int .i64) (.pr (.int .i64) (.pr .bool (.pr (.sl 3 (.int .i64)) .un)))))))), .rd (.int .i64), .rd (.int .i64)], caps := [], res := [⟨false, false, (.int .i64)⟩, ⟨false, false, (.int .i64)⟩], h := { al := [], el := [], tk := [], nn := [], ca := [(29, 27), (38, 26)], code := (.two .nil (.two (.join ⟨[], [(20, .v ⟨false, false, .bool⟩)]⟩ .nil .nil) (.two .nil (.two .nil (.join ⟨[6, 7, 8, 9], [(6, .v ⟨false, false, (.int .i64)⟩), (7, .v ⟨false, false, (.int .i64)⟩), (8, .v ⟨false, false, (.int .i64)⟩), (9, .v ⟨false, false, (.int .i64)⟩)]⟩ (.two .nil (.loop ⟨[6, 7, 8, 9, 10], [(6, .v ⟨false, false, (.int .i64)⟩), (7, .v ⟨false, false, (.int .i64)⟩), (8, .v ⟨false, false, (.int .i64)⟩), (9, .v ⟨false, false, (.int .i64)⟩), (10, .v ⟨false, false, (.int .i64)⟩)]⟩ (.two .nil (.join ⟨[6, 7, 8, 9], [(6, .v ⟨false, false, (.int .i64)⟩), (7, .v ⟨false, false, (.int .i64)⟩), (8, .v ⟨false, false, (.int .i64)⟩), (9, .v ⟨false, false, (.int .i64)⟩)]⟩ .nil .nil)))) .nil))))) } }
noncomputable def i_spec_ArityOf : Inst := { f := 110, fn := Try.f110, n := 15, pds := [.rd (.int .i64)], caps := [], res := [⟨false, false, (.int .i64)⟩], h := { al := [], el := [], tk := [], nn := [], ca := [], code := (.two .nil (.two (.two .nil (.two .nil (.two .nil (.join ⟨[], [(6, .v ⟨false, false, .bool⟩)]⟩ .nil (.two .nil (.join ⟨[], [(9, .v ⟨false, false, .bool⟩)]⟩ .nil .nil)))))) .nil)) } }
noncomputable def i_spec_l03Width : Inst := { f := 120, fn := Try.f120, n := 131, pds := [.rd (.sl 71 (.pr .str (.pr (.int .i64) .un))), .rd (.sl 73 (.pr (.int .i64) (.pr .str (.pr (.int .i64) (.pr (.int .i64) (.pr (.int .i64) (.pr .bool (.pr (.sl 3 (.int .i64)) .un)))))))), .rd (.int .i64)], caps := [], res := [⟨false, false, (.int .i64)⟩], h := { al := [23, 30, 61, 79, 90, 97, 103, 106, 112, 115, 121, 124, 128], el := [], tk := [], nn := [], ca := [(21, 29), (34, 28), (48, 30)], code := (.two .nil (.two .nil (.two .nil (.two .nil (.join ⟨[6, 8], [(6, .v ⟨false, false, (.int .i64)⟩), (8, .v ⟨true, true, (.sl 3 (.int .i64))⟩)]⟩ (.two .nil (.loop ⟨[6, 8, 10], [(6, .v ⟨false, false, (.int .i64)⟩), (8, .v ⟨true, true, (.sl 3 (.int .i64))⟩), (10, .v ⟨false, false, (.int .i64)⟩)]⟩ .nil)) (.join ⟨[6], [(6, .v ⟨false, false, (.int .i64)⟩)]⟩ (.two .nil (.two .nil (.two .nil (.join ⟨[], [(56, .v ⟨false, false, .bool⟩)]⟩ .nil (.two .nil (.two .nil (.two (.join ⟨[6], [(6, .v ⟨false, false, (.int .i64)⟩)]⟩ (.two .nil (.loop ⟨[6, 13], [(6, .v ⟨false, false, (.int .i64)⟩), (13, .v ⟨false, false, (.int .i64)⟩)]⟩ .nil)) .nil) (.two .nil (.two (.two (.join ⟨[], [(111, .v ⟨false, false, .bool⟩)]⟩ .nil .nil) .nil) .nil))))))))) .nil)))))) } }
noncomputable def i_spec_l02Kids : Inst := { f := 85, fn := Try.f85, n := 32, pds := [.rd (.sl 73 (.pr (.int .i64) (.pr .str (.pr (.int .i64) (.pr (.int .i64) (.pr (.int .i64) (.pr .bool (.pr (.sl 3 (.int .i64)) .un)))))))), .rd (.int .i64)], caps := [], res := [⟨true, true, (.sl 3 (.int .i64))⟩], h := { al := [], el := [], tk := [], nn := [], ca := [(17, 27), (28, 26)], code := (.two .nil (.two .nil (.two .nil (.join ⟨[5, 6], [(5, .v ⟨true, true, (.sl 3 (.int .i64))⟩)]⟩ (.two .nil (.loop ⟨[5, 6, 7], [(5, .v ⟨true, true, (.sl 3 (.int .i64))⟩), (6, .v ⟨false, false, (.int .i64)⟩), (7, .v ⟨false, false, (.int .i64)⟩)]⟩ .nil)) .nil)))) } }
noncomputable def i_spec_l03Find : Inst := { f := 86, fn := Try.f86, n := 20, pds := [.rd (.sl 71 (.pr .str (.pr (.int .i64) .un))), .rd .str], caps := [], res := [⟨false, false, (.int .i64)⟩], h := { al := [], el := [], tk := [], nn := [], ca := [], code := (.two .nil (.join ⟨[4], [(4, .v ⟨false, false, (.int .i64)⟩)]⟩ (.two .nil (.loop ⟨[4, 5], [(4, .v ⟨false, false, (.int .i64)⟩), (5, .v ⟨false, false, (.int .i64)⟩)]⟩ .nil)) .nil)) } }
noncomputable def i_spec_l12Guess : Inst := { f := 57, fn := Try.f57, n := 94, pds := [.rd (.sl 71 (.pr .str (.pr (.int .i64) .un))), .rd (.sl 3 (.int .i64)), .rd (.sl 73 (.pr (.int .i64) (.pr .str (.pr (.int .i64) (.pr (.int .i64) (.pr (.int .i64) (.pr .bool (.pr (.sl 3 (.int .i64)) .un)))))))), .rd (.int .i64)], caps := [], res := [⟨false, false, (.int .i64)⟩], h := { al := [23, 32, 52, 59, 62, 71, 74, 86, 91], el := [], tk := [], nn := [], ca := [(21, 29), (36, 31), (47, 30), (68, 32), (78, 32)], code := (.two .nil (.two .nil (.two .nil (.two .nil (.join ⟨[10], [(10, .v ⟨true, true, (.sl 3 (.int .i64))⟩)]⟩ (.two .nil (.loop ⟨[10, 12], [(10, .v ⟨true, true, (.sl 3 (.int .i64))⟩), (12, .v ⟨false, false, (.int .i64)⟩)]⟩ .nil)) (.join ⟨[8], [(8, .v ⟨false, false, (.int .i64)⟩)]⟩ (.two .nil (.two .nil (.two .nil (.two .nil (.two .nil (.two .nil (.two .nil (.two .nil (.two .nil (.two .nil (.two (.two .nil (.join ⟨[13], [(13, .v ⟨false, false, (.int .i64)⟩)]⟩ .nil .nil)) .nil))))))))))) .nil)))))) } }
noncomputable def i_spec_l12Cut : Inst := { f := 63, fn := Try.f63, n := 6, pds := [.rd (.int .i64)], caps := [], res := [⟨false, false, (.int .i64)⟩], h := { al := [], el := [], tk := [], nn := [], ca := [], code := .nil } }
noncomputable def i_spec_BestStep : Inst := { f := 37, fn := Try.f37, n := 57, pds := [.rd (.sl 71 (.pr .str (.pr (.int .i64) .un))), .rd (.sl 3 (.int .i64)), .rd (.sl 73 (.pr (.int .i64) (.pr .str (.pr (.int .i64) (.pr (.int .i64) (.pr (.int .i64) (.pr .bool (.pr (.sl 3 (.int .i64)) .un))))))))], caps := [], res := [⟨false, false, (.pr (.int .i64) (.pr (.int .i64) .un))⟩, ⟨false, false, .bool⟩], h := { al := [28, 36, 45, 51], el := [], tk := [], nn := [], ca := [(20, 14), (26, 34), (40, 35), (46, 14)], code := (.two .nil (.two .nil (.two .nil (.two .nil (.two .nil (.two .nil (.join ⟨[8, 9, 10], [(8, .bx 50 [⟨true, true, (.int .i64)⟩, ⟨true, true, (.int .i64)⟩]), (10, .v ⟨false, false, .bool⟩)]⟩ (.two .nil (.loop ⟨[8, 9, 10, 12], [(8, .bx 50 [⟨true, true, (.int .i64)⟩, ⟨true, true, (.int .i64)⟩]), (9, .v ⟨false, false, (.int .i64)⟩), (10, .v ⟨false, false, .bool⟩), (12, .v ⟨false, false, (.int .i64)⟩)]⟩ (.two .nil (.join ⟨[8, 9, 10], [(8, .bx 50 [⟨false, false, (.int .i64)⟩, ⟨false, false, (.int .i64)⟩]), (9, .v ⟨false, false, (.int .i64)⟩), (10, .v ⟨false, false, .bool⟩)]⟩ .nil .nil)))) .nil))))))) } }
noncomputable def i_spec_StepsAt : Inst := { f := 73, fn := Try.f73, n := 42, pds := [.rd (.sl 71 (.pr .str (.pr (.int .i64) .un))), .rd (.sl 73 (.pr (.int .i64) (.pr .str (.pr (.int .i64) (.pr (.int .i64) (.pr (.int .i64) (.pr .bool (.pr (.sl 3 (.int .i64)) .un))))))))], caps := [], res := [⟨true, true, (.sl 50 (.pr (.int .i64) (.pr (.int .i64) .un)))⟩], h := { al := [], el := [], tk := [], nn := [], ca := [(14, 16), (33, 35)], code := (.two .nil (.two .nil (.two .nil (.join ⟨[5], [(5, .v ⟨true, true, (.sl 50 (.pr (.int .i64) (.pr (.int .i64) .un)))⟩)]⟩ (.two .nil (.loop ⟨[5, 6], [(5, .v ⟨true, true, (.sl 50 (.pr (.int .i64) (.pr (.int .i64) .un)))⟩), (6, .v ⟨false, false, (.int .i64)⟩)]⟩ (.two .nil (.join ⟨[5], [(5, .v ⟨true, true, (.sl 50 (.pr (.int .i64) (.pr (.int .i64) .un)))⟩)]⟩ (.two .nil (.loop ⟨[5, 7], [(5, .v ⟨true, true, (.sl 50 (.pr (.int .i64) (.pr (.int .i64) .un)))⟩), (7, .v ⟨false, false, (.int .i64)⟩)]⟩ (.two .nil (.join ⟨[5], [(5, .v ⟨true, true, (.sl 50 (.pr (.int .i64) (.pr (.int .i64) .un)))⟩)]⟩ .nil .nil)))) .nil)))) .nil)))) } }
noncomputable def i_spec_ApplyStep : Inst := { f := 74, fn := Try.f74, n := 99, pds := [.rd (.sl 71 (.pr .str (.pr (.int .i64) .un))), .rd (.sl 73 (.pr (.int .i64) (.pr .str (.pr (.int .i64) (.pr (.int .i64) (.pr (.int .i64) (.pr .bool (.pr (.sl 3 (.int .i64)) .un)))))))), .rd (.pr (.int .i64) (.pr (.int .i64) .un))], caps := [], res := [⟨true, true, (.sl 73 (.pr (.int .i64) (.pr .str (.pr (.int .i64) (.pr (.int .i64) (.pr (.int .i64) (.pr .bool (.pr (.sl 3 (.int .i64)) .un))))))))⟩, ⟨false, false, .bool⟩], h := { al := [94], el := [], tk := [], nn := [], ca := [(17, 12), (20, 16), (25, 20), (34, 20), (41, 36), (71, 37), (81, 26), (93, 38), (95, 22)], code := (.two .nil (.two .nil (.two (.join ⟨[], [(36, .v ⟨false, false, .bool⟩)]⟩ .nil .nil) (.two .nil (.two (.join ⟨[], [(62, .v ⟨false, false, .bool⟩)]⟩ .nil .nil) .nil))))) } }
noncomputable def i_spec_l08Two : Inst := { f := 98, fn := Try.f98, n := 16, pds := [.rd (.int .i64)], caps := [], res := [⟨false, false, (.int .i64)⟩, ⟨false, false, (.int .i64)⟩], h := { al := [8, 12], el := [], tk := [], nn := [], ca := [], code := .nil } }
noncomputable def i_spec_l08Part : Inst := { f := 99, fn := Try.f99, n := 230, pds := [.rd (.sl 71 (.pr .str (.pr (.int .i64) .un))), .rd (.sl 73 (.pr (.int .i64) (.pr .str (.pr (.int .i64) (.pr (.int .i64) (.pr (.int .i64) (.pr .bool (.pr (.sl 3 (.int .i64)) .un)))))))), .rd (.int .i64), .rd (.int .i64)], caps := [], res := [⟨true, true, (.sl 73 (.pr (.int .i64) (.pr .str (.pr (.int .i64) (.pr (.int .i64) (.pr (.int .i64) (.pr .bool (.pr (.sl 3 (.int .i64)) .un))))))))⟩, ⟨false, false, .bool⟩], h := { al := [35, 42, 51, 69, 92, 101, 117, 122, 132, 142, 145, 161, 166, 178, 209, 225], el := [70, 93, 102, 118, 123, 143, 146, 162, 167, 179, 210, 226], tk := [207], nn := [], hi := [33], ca := [(32, 29), (46, 26), (73, 38), (96, 38), (105, 38), (126, 38), (135, 28), (149, 38), (170, 38), (182, 38), (213, 38), (229, 38)], code := (.two .nil (.two .nil (.two .nil (.two .nil (.two .nil (.join ⟨[13], [(13, .v ⟨true, false, (.sl 31 (.sl 73 (.pr (.int .i64) (.pr .str (.pr (.int .i64) (.pr (.int .i64) (.pr (.int .i64) (.pr .bool (.pr (.sl 3 (.int .i64)) .un)))))))))⟩)]⟩ (.two .nil (.loop ⟨[13, 14], [(13, .v ⟨true, false, (.sl 31 (.sl 73 (.pr (.int .i64) (.pr .str (.pr (.int .i64) (.pr (.int .i64) (.pr (.int .i64) (.pr .bool (.pr (.sl 3 (.int .i64)) .un)))))))))⟩), (14, .v ⟨false, false, (.int .i64)⟩)]⟩ .nil)) (.join ⟨[8, 9, 10, 11], [(8, .v ⟨true, true, (.sl 73 (.pr (.int .i64) (.pr .str (.pr (.int .i64) (.pr (.int .i64) (.pr (.int .i64) (.pr .bool (.pr (.sl 3 (.int .i64)) .un))))))))⟩), (9, .v ⟨false, false, .bool⟩), (10, .bx 73 [⟨false, false, (.int .i64)⟩, ⟨false, false, .str⟩, ⟨false, false, (.int .i64)⟩, ⟨false, false, (.int .i64)⟩, ⟨false, false, (.int .i64)⟩, ⟨false, false, .bool⟩, ⟨false, false, (.sl 3 (.int .i64))⟩]), (11, .bx 73 [⟨false, false, (.int .i64)⟩, ⟨false, false, .str⟩, ⟨false, false, (.int .i64)⟩, ⟨false, false, (.int .i64)⟩, ⟨false, false, (.int .i64)⟩, ⟨false, false, .bool⟩, ⟨false, false, (.sl 3 (.int .i64))⟩])]⟩ (.two .nil (.join ⟨[], [(60, .v ⟨false, false, .bool⟩)]⟩ .nil (.two .nil (.two .nil (.two (.two (.join ⟨[], [(81, .v ⟨false, false, .bool⟩)]⟩ .nil .nil) (.join ⟨[11], [(11, .bx 73 [⟨false, false, (.int .i64)⟩, ⟨false, false, .str⟩, ⟨false, false, (.int .i64)⟩, ⟨false, false, (.int .i64)⟩, ⟨false, false, (.int .i64)⟩, ⟨false, false, .bool⟩, ⟨false, false, (.sl 3 (.int .i64))⟩])]⟩ .nil .nil)) (.two .nil (.two .nil (.two .nil (.two .nil (.join ⟨[], [(127, .v ⟨false, false, .bool⟩)]⟩ .nil (.two .nil (.two .nil (.two .nil (.two .nil (.two (.two .nil (.join ⟨[18], [(18, .v ⟨true, true, (.sl 3 (.int .i64))⟩)]⟩ (.two .nil (.loop ⟨[18, 19], [(18, .v ⟨true, true, (.sl 3 (.int .i64))⟩), (19, .v ⟨false, false, (.int .i64)⟩)]⟩ .nil)) .nil)) .nil))))))))))))))) .nil))))))) } }
noncomputable def i_spec_l02Joined : Inst := { f := 101, fn := Try.f101, n := 20, pds := [.rd (.sl 31 (.sl 73 (.pr (.int .i64) (.pr .str (.pr (.int .i64) (.pr (.int .i64) (.pr (.int .i64) (.pr .bool (.pr (.sl 3 (.int .i64)) .un)))))))))], caps := [], res := [⟨true, true, (.sl 73 (.pr (.int .i64) (.pr .str (.pr (.int .i64) (.pr (.int .i64) (.pr (.int .i64) (.pr .bool (.pr (.sl 3 (.int .i64)) .un))))))))⟩], h := { al := [], el := [], tk := [], nn := [], ca := [(17, 12)], code := (.two .nil (.two .nil (.join ⟨[3], [(3, .v ⟨true, true, (.sl 73 (.pr (.int .i64) (.pr .str (.pr (.int .i64) (.pr (.int .i64) (.pr (.int .i64) (.pr .bool (.pr (.sl 3 (.int .i64)) .un))))))))⟩)]⟩ (.two .nil (.loop ⟨[3, 4], [(3, .v ⟨true, true, (.sl 73 (.pr (.int .i64) (.pr .str (.pr (.int .i64) (.pr (.int .i64) (.pr (.int .i64) (.pr .bool (.pr (.sl 3 (.int .i64)) .un))))))))⟩), (4, .v ⟨false, false, (.int .i64)⟩)]⟩ .nil)) .nil))) } }
noncomputable def i_impl_Improve : Inst := { f := 53, fn := Try.f53, n := 39, pds := [.rd (.sl 71 (.pr .str (.pr (.int .i64) .un))), .rd (.sl 3 (.int .i64)), .rd (.sl 73 (.pr (.int .i64) (.pr .str (.pr (.int .i64) (.pr (.int .i64) (.pr (.int .i64) (.pr .bool (.pr (.sl 3 (.int .i64)) .un))))))))], caps := [], res := [⟨true, true, (.sl 73 (.pr (.int .i64) (.pr .str (.pr (.int .i64) (.pr (.int .i64) (.pr (.int .i64) (.pr .bool (.pr (.sl 3 (.int .i64)) .un))))))))⟩, ⟨true, true, (.sl 50 (.pr (.int .i64) (.pr (.int .i64) .un)))⟩], h := { al := [14, 20, 28], el := [], tk := [], nn := [], ca := [(13, 40), (21, 42), (30, 77)], code := (.two .nil (.two .nil (.two .nil (.join ⟨[8, 9], [(8, .v ⟨true, true, (.sl 73 (.pr (.int .i64) (.pr .str (.pr (.int .i64) (.pr (.int .i64) (.pr (.int .i64) (.pr .bool (.pr (.sl 3 (.int .i64)) .un))))))))⟩), (9, .v ⟨true, true, (.sl 50 (.pr (.int .i64) (.pr (.int .i64) .un)))⟩)]⟩ (.loop ⟨[8, 9], [(8, .v ⟨true, true, (.sl 73 (.pr (.int .i64) (.pr .str (.pr (.int .i64) (.pr (.int .i64) (.pr (.int .i64) (.pr .bool (.pr (.sl 3 (.int .i64)) .un))))))))⟩), (9, .v ⟨true, true, (.sl 50 (.pr (.int .i64) (.pr (.int .i64) .un)))⟩)]⟩ .nil) .nil)))) } }
noncomputable def i_impl_own : Inst := { f := 68, fn := Try.f68, n := 22, pds := [.rd (.sl 73 (.pr (.int .i64) (.pr .str (.pr (.int .i64) (.pr (.int .i64) (.pr (.int .i64) (.pr .bool (.pr (.sl 3 (.int .i64)) .un))))))))], caps := [], res := [⟨true, true, (.sl 73 (.pr (.int .i64) (.pr .str (.pr (.int .i64) (.pr (.int .i64) (.pr (.int .i64) (.pr .bool (.pr (.sl 3 (.int .i64)) .un))))))))⟩], h := { al := [], el := [], tk := [17], nn := [], ca := [(14, 41)], code := (.two .nil (.two .nil (.join ⟨[3], [(3, .v ⟨true, true, (.sl 73 (.pr (.int .i64) (.pr .str (.pr (.int .i64) (.pr (.int .i64) (.pr (.int .i64) (.pr .bool (.pr (.sl 3 (.int .i64)) .un))))))))⟩)]⟩ (.two .nil (.loop ⟨[3, 8], [(3, .v ⟨true, true, (.sl 73 (.pr (.int .i64) (.pr .str (.pr (.int .i64) (.pr (.int .i64) (.pr (.int .i64) (.pr .bool (.pr (.sl 3 (.int .i64)) .un))))))))⟩), (8, .v ⟨false, false, (.int .i64)⟩)]⟩ .nil)) .nil))) } }
noncomputable def i_slices_Clone_Lint : Inst := { f := 94, fn := Try.f94, n := 8, pds := [.rd (.sl 3 (.int .i64))], caps := [], res := [⟨true, true, (.sl 3 (.int .i64))⟩], h := { al := [], el := [], tk := [], nn := [], ca := [], code := .nil } }
noncomputable def i_impl_BestStep : Inst := { f := 38, fn := Try.f38, n := 55, pds := [.rd (.sl 71 (.pr .str (.pr (.int .i64) .un))), .rd (.sl 3 (.int .i64)), .rd (.sl 73 (.pr (.int .i64) (.pr .str (.pr (.int .i64) (.pr (.int .i64) (.pr (.int .i64) (.pr .bool (.pr (.sl 3 (.int .i64)) .un))))))))], caps := [], res := [⟨false, false, (.pr (.int .i64) (.pr (.int .i64) .un))⟩, ⟨false, false, .bool⟩], h := { al := [41], el := [], tk := [], nn := [], ca := [(19, 43), (26, 76), (36, 77), (42, 43)], code := (.two .nil (.two .nil (.two .nil (.two .nil (.join ⟨[8, 9, 10], [(9, .bx 50 [⟨true, true, (.int .i64)⟩, ⟨true, true, (.int .i64)⟩]), (10, .v ⟨false, false, .bool⟩)]⟩ (.two .nil (.loop ⟨[8, 9, 10, 28], [(8, .v ⟨false, false, (.int .i64)⟩), (9, .bx 50 [⟨true, true, (.int .i64)⟩, ⟨true, true, (.int .i64)⟩]), (10, .v ⟨false, false, .bool⟩), (28, .v ⟨false, false, (.int .i64)⟩)]⟩ (.two .nil (.two .nil (.join ⟨[8, 9, 10], [(8, .v ⟨false, false, (.int .i64)⟩), (9, .bx 50 [⟨false, false, (.int .i64)⟩, ⟨false, false, (.int .i64)⟩]), (10, .v ⟨false, false, .bool⟩)]⟩ (.two .nil (.two .nil (.two .nil (.join ⟨[], [(49, .v ⟨false, false, .bool⟩)]⟩ .nil .nil)))) .nil))))) .nil))))) } }
noncomputable def i_impl_CostOf : Inst := { f := 24, fn := Try.f24, n := 17, pds := [.rd (.sl 71 (.pr .str (.pr (.int .i64) .un))), .rd (.sl 3 (.int .i64)), .rd (.sl 73 (.pr (.int .i64) (.pr .str (.pr (.int .i64) (.pr (.int .i64) (.pr (.int .i64) (.pr .bool (.pr (.sl 3 (.int .i64)) .un))))))))], caps := [], res := [⟨false, false, (.int .i64)⟩], h := { al := [], el := [], tk := [], nn := [], ca := [(13, 44)], code := .nil } }
noncomputable def i_impl_reckon : Inst := { f := 60, fn := Try.f60, n := 27, pds := [.rd (.sl 71 (.pr .str (.pr (.int .i64) .un))), .rd (.sl 3 (.int .i64)), .rd (.sl 73 (.pr (.int .i64) (.pr .str (.pr (.int .i64) (.pr (.int .i64) (.pr (.int .i64) (.pr .bool (.pr (.sl 3 (.int .i64)) .un))))))))], caps := [], res := [⟨false, false, (.int .i64)⟩, ⟨false, false, (.int .i64)⟩], h := { al := [], el := [], tk := [], nn := [], ca := [(12, 45), (17, 71), (23, 75)], code := (.two .nil (.two (.join ⟨[], [(19, .v ⟨false, false, .bool⟩)]⟩ .nil .nil) .nil)) } }
noncomputable def i_impl_TypedOk : Inst := { f := 87, fn := Try.f87, n := 9, pds := [.rd (.sl 71 (.pr .str (.pr (.int .i64) .un))), .rd (.sl 73 (.pr (.int .i64) (.pr .str (.pr (.int .i64) (.pr (.int .i64) (.pr (.int .i64) (.pr .bool (.pr (.sl 3 (.int .i64)) .un))))))))], caps := [], res := [⟨false, false, .bool⟩], h := { al := [], el := [], tk := [], nn := [], ca := [(7, 46)], code := .nil } }
noncomputable def i_impl_WidthOf : Inst := { f := 111, fn := Try.f111, n := 16, pds := [.rd (.sl 71 (.pr .str (.pr (.int .i64) .un))), .rd (.sl 73 (.pr (.int .i64) (.pr .str (.pr (.int .i64) (.pr (.int .i64) (.pr (.int .i64) (.pr .bool (.pr (.sl 3 (.int .i64)) .un))))))))], caps := [], res := [⟨false, false, (.int .i64)⟩], h := { al := [], el := [], tk := [], nn := [], ca := [(6, 47), (10, 50), (15, 65)], code := (.two .nil (.two (.join ⟨[], [(12, .v ⟨false, false, .bool⟩)]⟩ .nil .nil) .nil)) } }
noncomputable def i_impl_SchemaOk : Inst := { f := 129, fn := Try.f129, n := 41, pds := [.rd (.sl 71 (.pr .str (.pr (.int .i64) .un)))], caps := [], res := [⟨false, false, .bool⟩], h := { al := [], el := [], tk := [], nn := [], ca := [(14, 48), (19, 49)], code := (.two .nil (.join ⟨[2], [(2, .v ⟨false, false, .bool⟩)]⟩ (.two .nil (.loop ⟨[2, 7], [(2, .v ⟨false, false, .bool⟩), (7, .v ⟨false, false, (.int .i64)⟩)]⟩ (.two .nil (.two .nil (.two (.two .nil (.join ⟨[], [(36, .v ⟨false, false, .bool⟩)]⟩ .nil .nil)) .nil))))) .nil)) } }
noncomputable def i_impl_WordOk : Inst := { f := 140, fn := Try.f140, n := 38, pds := [.rd .str], caps := [], res := [⟨false, false, .bool⟩], h := { al := [], el := [], tk := [], nn := [], ca := [(37, 49)], code := (.two .nil (.join ⟨[2], [(2, .v ⟨false, false, .bool⟩)]⟩ (.two .nil (.loop ⟨[2, 8], [(2, .v ⟨false, false, .bool⟩), (8, .v ⟨false, false, (.int .i64)⟩)]⟩ (.two .nil (.two .nil (.two (.two .nil (.two .nil (.join ⟨[], [(5, .v ⟨false, false, .bool⟩)]⟩ .nil (.join ⟨[], [(33, .v ⟨false, false, .bool⟩)]⟩ .nil .nil)))) .nil))))) .nil)) } }
noncomputable def i_impl_in : Inst := { f := 103, fn := Try.f103, n := 15, pds := [.rd (.int .i64), .rd (.int .i64), .rd (.int .i64)], caps := [], res := [⟨false, false, .bool⟩], h := { al := [], el := [], tk := [], nn := [], ca := [], code := (.two .nil (.join ⟨[6], [(6, .v ⟨false, false, .bool⟩)]⟩ .nil .nil)) } }
noncomputable def i_impl_PlanOk : Inst := { f := 107, fn := Try.f107, n := 16, pds := [.rd (.sl 73 (.pr (.int .i64) (.pr .str (.pr (.int .i64) (.pr (.int .i64) (.pr (.int .i64) (.pr .bool (.pr (.sl 3 (.int .i64)) .un))))))))], caps := [], res := [⟨false, false, .bool⟩], h := { al := [], el := [], tk := [], nn := [], ca := [(5, 49), (9, 51), (12, 63)], code := (.two .nil (.two (.join ⟨[], [(10, .v ⟨false, false, .bool⟩)]⟩ .nil .nil) .nil)) } }
noncomputable def i_slices_ContainsFunc_LimplNode_impl_PlanOk_1 : Inst := { f := 126, fn := Try.f126, n := 9, pds := [.rd (.sl 73 (.pr (.int .i64) (.pr .str (.pr (.int .i64) (.pr (.int .i64) (.pr (.int .i64) (.pr .bool (.pr (.sl 3 (.int .i64)) .un)))))))), .fn 127 []], caps := [], res := [⟨false, false, .bool⟩], h := { al := [], el := [], tk := [], nn := [], ca := [(7, 52)], code := .nil } }
noncomputable def i_slices_IndexFunc_LimplNode_impl_PlanOk_1 : Inst := { f := 139, fn := Try.f139, n := 19, pds := [.rd (.sl 73 (.pr (.int .i64) (.pr .str (.pr (.int .i64) (.pr (.int .i64) (.pr (.int .i64) (.pr .bool (.pr (.sl 3 (.int .i64)) .un)))))))), .fn 127 []], caps := [], res := [⟨false, false, (.int .i64)⟩], h := { al := [], el := [], tk := [], nn := [], ca := [(16, 53)], code := (.two .nil (.join ⟨[4], [(4, .v ⟨false, false, (.int .i64)⟩)]⟩ (.two .nil (.loop ⟨[4, 8], [(4, .v ⟨false, false, (.int .i64)⟩), (8, .v ⟨false, false, (.int .i64)⟩)]⟩ .nil)) .nil)) } }
noncomputable def i_impl_PlanOk_1 : Inst := { f := 127, fn := Try.f127, n := 6, pds := [.rd (.pr (.int .i64) (.pr .str (.pr (.int .i64) (.pr (.int .i64) (.pr (.int .i64) (.pr .bool (.pr (.sl 3 (.int .i64)) .un)))))))], caps := [], res := [⟨false, false, .bool⟩], h := { al := [], el := [], tk := [], nn := [], ca := [(4, 54)], code := .nil } }
noncomputable def i_impl_NodeOk : Inst := { f := 128, fn := Try.f128, n := 116, pds := [.rd (.pr (.int .i64) (.pr .str (.pr (.int .i64) (.pr (.int .i64) (.pr (.int .i64) (.pr .bool (.pr (.sl 3 (.int .i64)) .un)))))))], caps := [], res := [⟨false, false, .bool⟩], h := { al := [], el := [], tk := [], nn := [], ca := [(13, 48), (19, 55), (23, 49), (29, 57), (53, 56), (64, 49), (68, 58), (76, 55), (80, 55), (88, 55), (94, 49), (102, 56), (114, 61)], code := (.two .nil (.two .nil (.two .nil (.two .nil (.join ⟨[3, 4, 6], [(3, .bx 73 [⟨false, false, (.int .i64)⟩, ⟨false, false, .str⟩, ⟨false, false, (.int .i64)⟩, ⟨false, false, (.int .i64)⟩, ⟨false, false, (.int .i64)⟩, ⟨false, false, .bool⟩, ⟨false, false, (.sl 3 (.int .i64))⟩]), (4, .v ⟨false, false, .bool⟩)]⟩ (.two .nil (.two .nil (.two .nil (.two .nil (.two (.join ⟨[4], [(4, .v ⟨false, false, .bool⟩)]⟩ .nil (.join ⟨[4], [(4, .v ⟨false, false, .bool⟩)]⟩ .nil .nil)) (.two .nil (.two (.join ⟨[4], [(4, .v ⟨false, false, .bool⟩)]⟩ .nil .nil) (.two .nil (.two (.join ⟨[4], [(4, .v ⟨false, false, .bool⟩)]⟩ .nil .nil) (.two .nil (.two .nil (.two .nil (.two (.join ⟨[4], [(4, .v ⟨false, false, .bool⟩)]⟩ .nil .nil) (.join ⟨[], [(107, .v ⟨false, false, .bool⟩)]⟩ .nil .nil)))))))))))))) (.join ⟨[2], [(2, .v ⟨false, false, .bool⟩)]⟩ .nil .nil)))))) } }
noncomputable def i_impl_isCol : Inst := { f := 141, fn := Try.f141, n := 5, pds := [.rd (.int .i64)], caps := [], res := [⟨false, false, .bool⟩], h := { al := [], el := [], tk := [], nn := [], ca := [(4, 49)], code := .nil } }
noncomputable def i_impl_isSlot : Inst := { f := 142, fn := Try.f142, n := 5, pds := [.rd (.int .i64)], caps := [], res := [⟨false, false, .bool⟩], h := { al := [], el := [], tk := [], nn := [], ca := [(4, 49)], code := .nil } }
noncomputable def i_impl_isNum : Inst := { f := 143, fn := Try.f143, n := 5, pds := [.rd (.int .i64)], caps := [], res := [⟨false, false, .bool⟩], h := { al := [], el := [], tk := [], nn := [], ca := [(4, 49)], code := .nil } }
noncomputable def i_slices_ContainsFunc_Lint_impl_NodeOk_1 : Inst := { f := 112, fn := Try.f112, n := 9, pds := [.rd (.sl 3 (.int .i64)), .fn 144 []], caps := [], res := [⟨false, false, .bool⟩], h := { al := [], el := [], tk := [], nn := [], ca := [(7, 59)], code := .nil } }
noncomputable def i_slices_IndexFunc_Lint_impl_NodeOk_1 : Inst := { f := 130, fn := Try.f130, n := 19, pds := [.rd (.sl 3 (.int .i64)), .fn 144 []], caps := [], res := [⟨false, false, (.int .i64)⟩], h := { al := [], el := [], tk := [], nn := [], ca := [(16, 60)], code := (.two .nil (.join ⟨[4], [(4, .v ⟨false, false, (.int .i64)⟩)]⟩ (.two .nil (.loop ⟨[4, 8], [(4, .v ⟨false, false, (.int .i64)⟩), (8, .v ⟨false, false, (.int .i64)⟩)]⟩ .nil)) .nil)) } }
noncomputable def i_impl_NodeOk_1 : Inst := { f := 144, fn := Try.f144, n := 6, pds := [.rd (.int .i64)], caps := [], res := [⟨false, false, .bool⟩], h := { al := [], el := [], tk := [], nn := [], ca := [(4, 55)], code := .nil } }
noncomputable def i_impl_sameNode : Inst := { f := 145, fn := Try.f145, n := 52, pds := [.rd (.pr (.int .i64) (.pr .str (.pr (.int .i64) (.pr (.int .i64) (.pr (.int .i64) (.pr .bool (.pr (.sl 3 (.int .i64)) .un))))))), .rd (.pr (.int .i64) (.pr .str (.pr (.int .i64) (.pr (.int .i64) (.pr (.int .i64) (.pr .bool (.pr (.sl 3 (.int .i64)) .un)))))))], caps := [], res := [⟨false, false, .bool⟩], h := { al := [], el := [], tk := [], nn := [], ca := [(50, 62)], code := (.two .nil (.join ⟨[4], [(4, .v ⟨false, false, .bool⟩)]⟩ .nil .nil)) } }
noncomputable def i_slices_Equal_Lint : Inst := { f := 146, fn := Try.f146, n := 26, pds := [.rd (.sl 3 (.int .i64)), .rd (.sl 3 (.int .i64))], caps := [], res := [⟨false, false, .bool⟩], h := { al := [], el := [], tk := [], nn := [], ca := [], code := (.two .nil (.two .nil (.join ⟨[4], [(4, .v ⟨false, false, .bool⟩)]⟩ (.two .nil (.loop ⟨[4, 13], [(4, .v ⟨false, false, .bool⟩), (13, .v ⟨false, false, (.int .i64)⟩)]⟩ .nil)) .nil))) } }
noncomputable def i_impl_end : Inst := { f := 106, fn := Try.f106, n := 35, pds := [.rd (.sl 73 (.pr (.int .i64) (.pr .str (.pr (.int .i64) (.pr (.int .i64) (.pr (.int .i64) (.pr .bool (.pr (.sl 3 (.int .i64)) .un)))))))), .rd (.int .i64), .rd (.int .i64)], caps := [], res := [⟨false, false, (.int .i64)⟩], h := { al := [], el := [], tk := [], nn := [], ca := [(23, 64), (30, 63)], code := (.two .nil (.two (.join ⟨[], [(15, .v ⟨false, false, .bool⟩)]⟩ .nil .nil) (.two .nil (.join ⟨[6, 7], [(6, .v ⟨false, false, (.int .i64)⟩), (7, .v ⟨false, false, (.int .i64)⟩)]⟩ (.two .nil (.loop ⟨[6, 7, 24], [(6, .v ⟨false, false, (.int .i64)⟩), (7, .v ⟨false, false, (.int .i64)⟩), (24, .v ⟨false, false, (.int .i64)⟩)]⟩ .nil)) .nil)))) } }
noncomputable def i_impl_ArityOf : Inst := { f := 125, fn := Try.f125, n := 15, pds := [.rd (.int .i64)], caps := [], res := [⟨false, false, (.int .i64)⟩], h := { al := [], el := [], tk := [], nn := [], ca := [], code := (.two .nil (.two (.two .nil (.two .nil (.two .nil (.join ⟨[], [(6, .v ⟨false, false, .bool⟩)]⟩ .nil (.two .nil (.join ⟨[], [(9, .v ⟨false, false, .bool⟩)]⟩ .nil .nil)))))) .nil)) } }
noncomputable def i_impl_width : Inst := { f := 123, fn := Try.f123, n := 117, pds := [.rd (.sl 71 (.pr .str (.pr (.int .i64) .un))), .rd (.sl 73 (.pr (.int .i64) (.pr .str (.pr (.int .i64) (.pr (.int .i64) (.pr (.int .i64) (.pr .bool (.pr (.sl 3 (.int .i64)) .un)))))))), .rd (.int .i64)], caps := [], res := [⟨false, false, (.int .i64)⟩], h := { al := [56, 65, 76, 83, 89, 92, 98, 101, 107, 110, 114], el := [], tk := [], nn := [], ca := [(15, 66), (24, 65), (43, 67), (64, 70)], code := (.two .nil (.two .nil (.join ⟨[6, 7], [(6, .v ⟨false, false, (.int .i64)⟩), (7, .v ⟨true, true, (.sl 3 (.int .i64))⟩)]⟩ (.two .nil (.loop ⟨[6, 7, 17], [(6, .v ⟨false, false, (.int .i64)⟩), (7, .v ⟨true, true, (.sl 3 (.int .i64))⟩), (17, .v ⟨false, false, (.int .i64)⟩)]⟩ .nil)) (.two .nil (.join ⟨[6], [(6, .v ⟨false, false, (.int .i64)⟩)]⟩ (.two .nil (.two .nil (.two .nil (.join ⟨[], [(51, .v ⟨false, false, .bool⟩)]⟩ .nil (.two .nil (.two .nil (.two .nil (.two .nil (.two (.two (.join ⟨[], [(97, .v ⟨false, false, .bool⟩)]⟩ .nil .nil) .nil) .nil))))))))) .nil))))) } }
noncomputable def i_impl_children : Inst := { f := 114, fn := Try.f114, n := 26, pds := [.rd (.sl 73 (.pr (.int .i64) (.pr .str (.pr (.int .i64) (.pr (.int .i64) (.pr (.int .i64) (.pr .bool (.pr (.sl 3 (.int .i64)) .un)))))))), .rd (.int .i64)], caps := [], res := [⟨true, true, (.sl 3 (.int .i64))⟩], h := { al := [], el := [], tk := [], nn := [], ca := [(14, 64), (23, 63)], code := (.two .nil (.two .nil (.two .nil (.join ⟨[5, 6], [(5, .v ⟨true, true, (.sl 3 (.int .i64))⟩)]⟩ (.two .nil (.loop ⟨[5, 6, 15], [(5, .v ⟨true, true, (.sl 3 (.int .i64))⟩), (6, .v ⟨false, false, (.int .i64)⟩), (15, .v ⟨false, false, (.int .i64)⟩)]⟩ .nil)) .nil)))) } }
noncomputable def i_impl_tableAt : Inst := { f := 115, fn := Try.f115, n := 8, pds := [.rd (.sl 71 (.pr .str (.pr (.int .i64) .un))), .rd .str], caps := [], res := [⟨false, false, (.int .i64)⟩], h := { al := [], el := [], tk := [], nn := [], ca := [(7, 68)], code := .nil } }
noncomputable def i_slices_IndexFunc_LimplTable_impl_tableAt_1 : Inst := { f := 131, fn := Try.f131, n := 19, pds := [.rd (.sl 71 (.pr .str (.pr (.int .i64) .un))), .fn 132 [(true, 9, [⟨false, false, .str⟩])]], caps := [], res := [⟨false, false, (.int .i64)⟩], h := { al := [], el := [], tk := [], nn := [], ca := [(16, 69)], code := (.two .nil (.join ⟨[1, 4, 19], [(4, .v ⟨false, false, (.int .i64)⟩), (19, .bx 9 [⟨false, false, .str⟩])]⟩ (.two .nil (.loop ⟨[1, 4, 8, 19], [(1, .fix (.fn 132 [19])), (4, .v ⟨false, false, (.int .i64)⟩), (8, .v ⟨false, false, (.int .i64)⟩), (19, .bx 9 [⟨false, false, .str⟩])]⟩ .nil)) .nil)) } }
noncomputable def i_impl_tableAt_1 : Inst := { f := 132, fn := Try.f132, n := 8, pds := [.rd (.pr .str (.pr (.int .i64) .un))], caps := [(true, 9, [⟨false, false, .str⟩])], res := [⟨false, false, .bool⟩], h := { al := [], el := [], tk := [], nn := [], ca := [], code := .nil } }
noncomputable def i_slices_Max_Lint : Inst := { f := 138, fn := Try.f138, n := 25, pds := [.rd (.sl 3 (.int .i64))], caps := [], res := [⟨false, false, (.int .i64)⟩], h := { al := [], el := [], tk := [], nn := [], ca := [], code := (.two .nil (.join ⟨[], []⟩ .nil (.two .nil (.join ⟨[3], [(3, .v ⟨false, false, (.int .i64)⟩)]⟩ (.two .nil (.loop ⟨[3, 4], [(3, .v ⟨false, false, (.int .i64)⟩), (4, .v ⟨false, false, (.int .i64)⟩)]⟩ .nil)) .nil)))) } }
noncomputable def i_impl_sizesOk : Inst := { f := 88, fn := Try.f88, n := 15, pds := [.rd (.sl 71 (.pr .str (.pr (.int .i64) .un))), .rd (.sl 3 (.int .i64))], caps := [], res := [⟨false, false, .bool⟩], h := { al := [], el := [], tk := [], nn := [], ca := [(12, 72)], code := (.two .nil (.join ⟨[4], [(4, .v ⟨false, false, .bool⟩)]⟩ .nil .nil)) } }
noncomputable def i_slices_ContainsFunc_Lint_impl_sizesOk_1 : Inst := { f := 112, fn := Try.f112, n := 9, pds := [.rd (.sl 3 (.int .i64)), .fn 113 []], caps := [], res := [⟨false, false, .bool⟩], h := { al := [], el := [], tk := [], nn := [], ca := [(7, 73)], code := .nil } }
noncomputable def i_slices_IndexFunc_Lint_impl_sizesOk_1 : Inst := { f := 130, fn := Try.f130, n := 19, pds := [.rd (.sl 3 (.int .i64)), .fn 113 []], caps := [], res := [⟨false, false, (.int .i64)⟩], h := { al := [], el := [], tk := [], nn := [], ca := [(16, 74)], code := (.two .nil (.join ⟨[4], [(4, .v ⟨false, false, (.int .i64)⟩)]⟩ (.two .nil (.loop ⟨[4, 8], [(4, .v ⟨false, false, (.int .i64)⟩), (8, .v ⟨false, false, (.int .i64)⟩)]⟩ .nil)) .nil)) } }
noncomputable def i_impl_sizesOk_1 : Inst := { f := 113, fn := Try.f113, n := 6, pds := [.rd (.int .i64)], caps := [], res := [⟨false, false, .bool⟩], h := { al := [], el := [], tk := [], nn := [], ca := [(4, 49)], code := .nil } }
noncomputable def i_impl_guess : Inst := { f := 89, fn := Try.f89, n := 100, pds := [.rd (.sl 71 (.pr .str (.pr (.int .i64) .un))), .rd (.sl 3 (.int .i64)), .rd (.sl 73 (.pr (.int .i64) (.pr .str (.pr (.int .i64) (.pr (.int .i64) (.pr (.int .i64) (.pr .bool (.pr (.sl 3 (.int .i64)) .un)))))))), .rd (.int .i64), .pt true 3 [⟨false, false, (.int .i64)⟩]], caps := [], res := [⟨false, false, (.int .i64)⟩], h := { al := [41, 55, 62, 65, 73, 76, 86], el := [], tk := [], nn := [], ca := [(19, 66), (31, 75), (50, 67)], code := (.two .nil (.two .nil (.join ⟨[4, 11, 100], [(4, .fix (.eq 100)), (11, .v ⟨true, true, (.sl 3 (.int .i64))⟩), (100, .bx 3 [⟨false, false, (.int .i64)⟩])]⟩ (.two .nil (.loop ⟨[4, 11, 21, 100], [(4, .fix (.eq 100)), (11, .v ⟨true, true, (.sl 3 (.int .i64))⟩), (21, .v ⟨false, false, (.int .i64)⟩), (100, .bx 3 [⟨false, false, (.int .i64)⟩])]⟩ .nil)) (.two .nil (.two .nil (.join ⟨[15], [(15, .v ⟨false, false, (.int .i64)⟩)]⟩ (.two .nil (.two .nil (.two .nil (.two .nil (.two .nil (.two .nil (.two .nil (.two .nil (.two .nil (.two .nil (.two (.two .nil (.join ⟨[16], [(16, .v ⟨false, false, (.int .i64)⟩)]⟩ .nil .nil)) .nil))))))))))) .nil)))))) } }
noncomputable def i_impl_StepsAt : Inst := { f := 75, fn := Try.f75, n := 41, pds := [.rd (.sl 71 (.pr .str (.pr (.int .i64) .un))), .rd (.sl 73 (.pr (.int .i64) (.pr .str (.pr (.int .i64) (.pr (.int .i64) (.pr (.int .i64) (.pr .bool (.pr (.sl 3 (.int .i64)) .un))))))))], caps := [], res := [⟨true, true, (.sl 50 (.pr (.int .i64) (.pr (.int .i64) .un)))⟩], h := { al := [], el := [], tk := [], nn := [], ca := [(13, 45), (30, 77)], code := (.two .nil (.two .nil (.two .nil (.join ⟨[5], [(5, .v ⟨true, true, (.sl 50 (.pr (.int .i64) (.pr (.int .i64) .un)))⟩)]⟩ (.two .nil (.loop ⟨[5, 17], [(5, .v ⟨true, true, (.sl 50 (.pr (.int .i64) (.pr (.int .i64) .un)))⟩), (17, .v ⟨false, false, (.int .i64)⟩)]⟩ (.two .nil (.two .nil (.join ⟨[5], [(5, .v ⟨true, true, (.sl 50 (.pr (.int .i64) (.pr (.int .i64) .un)))⟩)]⟩ (.two .nil (.two .nil (.loop ⟨[5, 20], [(5, .v ⟨true, true, (.sl 50 (.pr (.int .i64) (.pr (.int .i64) .un)))⟩), (20, .v ⟨false, false, (.int .i64)⟩)]⟩ (.two .nil (.two .nil (.join ⟨[5], [(5, .v ⟨true, true, (.sl 50 (.pr (.int .i64) (.pr (.int .i64) .un)))⟩)]⟩ .nil .nil)))))) .nil))))) .nil)))) } }
noncomputable def i_impl_apply : Inst := { f := 76, fn := Try.f76, n := 51, pds := [.rd (.sl 71 (.pr .str (.pr (.int .i64) .un))), .rd (.sl 73 (.pr (.int .i64) (.pr .str (.pr (.int .i64) (.pr (.int .i64) (.pr (.int .i64) (.pr .bool (.pr (.sl 3 (.int .i64)) .un)))))))), .rd (.pr (.int .i64) (.pr (.int .i64) .un))], caps := [], res := [⟨true, true, (.sl 73 (.pr (.int .i64) (.pr .str (.pr (.int .i64) (.pr (.int .i64) (.pr (.int .i64) (.pr .bool (.pr (.sl 3 (.int .i64)) .un))))))))⟩, ⟨false, false, .bool⟩], h := { al := [45], el := [], tk := [], nn := [], ca := [(16, 49), (19, 40), (24, 78), (30, 40), (40, 63), (43, 80), (44, 40), (46, 50), (49, 40)], code := .nil } }
noncomputable def i_impl_turned : Inst := { f := 104, fn := Try.f104, n := 237, pds := [.rd (.sl 71 (.pr .str (.pr (.int .i64) .un))), .rd (.sl 73 (.pr (.int .i64) (.pr .str (.pr (.int .i64) (.pr (.int .i64) (.pr (.int .i64) (.pr .bool (.pr (.sl 3 (.int .i64)) .un)))))))), .rd (.pr (.int .i64) (.pr (.int .i64) .un))], caps := [], res := [⟨true, false, (.sl 73 (.pr (.int .i64) (.pr .str (.pr (.int .i64) (.pr (.int .i64) (.pr (.int .i64) (.pr .bool (.pr (.sl 3 (.int .i64)) .un))))))))⟩, ⟨false, false, .bool⟩], h := { al := [123, 126, 132, 144, 154, 172, 175, 182], el := [], tk := [212], nn := [], hi := [6], hs := [14], ca := [(24, 79), (65, 66), (69, 63), (100, 80), (106, 80), (117, 80), (138, 80), (147, 65), (160, 80), (188, 80), (216, 80), (231, 80), (236, 80)], code := (.two .nil (.two .nil (.two (.join ⟨[], [(49, .v ⟨false, false, .bool⟩)]⟩ .nil .nil) (.two .nil (.two .nil (.two .nil (.two .nil (.two .nil (.two .nil (.join ⟨[6, 7, 10, 11, 15], [(6, .v ⟨true, false, (.sl 73 (.pr (.int .i64) (.pr .str (.pr (.int .i64) (.pr (.int .i64) (.pr (.int .i64) (.pr .bool (.pr (.sl 3 (.int .i64)) .un))))))))⟩), (7, .v ⟨false, false, .bool⟩), (15, .v ⟨true, false, (.sl 73 (.pr (.int .i64) (.pr .str (.pr (.int .i64) (.pr (.int .i64) (.pr (.int .i64) (.pr .bool (.pr (.sl 3 (.int .i64)) .un))))))))⟩)]⟩ (.two .nil (.two .nil (.two (.two (.join ⟨[], [(89, .v ⟨false, false, .bool⟩)]⟩ .nil .nil) .nil) (.two .nil (.two .nil (.two .nil (.two .nil (.two .nil (.two .nil (.join ⟨[], [(139, .v ⟨false, false, .bool⟩)]⟩ .nil (.two .nil (.two .nil (.two (.two .nil (.join ⟨[18], [(18, .v ⟨true, true, (.sl 3 (.int .i64))⟩)]⟩ (.two .nil (.loop ⟨[18, 197], [(18, .v ⟨true, true, (.sl 3 (.int .i64))⟩), (197, .v ⟨false, false, (.int .i64)⟩)]⟩ .nil)) .nil)) .nil))))))))))))) .nil)))))))))) } }
noncomputable def i_impl_over : Inst := { f := 122, fn := Try.f122, n := 28, pds := [.rd (.int .i64)], caps := [], res := [⟨false, false, (.int .i64)⟩, ⟨false, false, (.int .i64)⟩], h := { al := [], el := [], tk := [], nn := [], ca := [], code := (.two .nil (.two (.two .nil (.two .nil (.two .nil (.two .nil (.two .nil (.two .nil (.two .nil (.two .nil (.two .nil (.two .nil (.two .nil (.join ⟨[], [(15, .v ⟨false, false, .bool⟩)]⟩ .nil .nil)))))))))))) .nil)) } }
noncomputable def i_slices_Concat_LimplNode : Inst := { f := 105, fn := Try.f105, n := 36, pds := [.rd (.sl 31 (.sl 73 (.pr (.int .i64) (.pr .str (.pr (.int .i64) (.pr (.int .i64) (.pr (.int .i64) (.pr .bool (.pr (.sl 3 (.int .i64)) .un)))))))))], caps := [], res := [⟨true, false, (.sl 73 (.pr (.int .i64) (.pr .str (.pr (.int .i64) (.pr (.int .i64) (.pr (.int .i64) (.pr .bool (.pr (.sl 3 (.int .i64)) .un))))))))⟩], h := { al := [], el := [], tk := [], nn := [], hi := [24], ca := [(24, 81)], code := (.two .nil (.two .nil (.join ⟨[3], [(3, .v ⟨false, false, (.int .i64)⟩)]⟩ (.two .nil (.loop ⟨[3, 11], [(3, .v ⟨false, false, (.int .i64)⟩), (11, .v ⟨false, false, (.int .i64)⟩)]⟩ (.two .nil (.two .nil (.join ⟨[3], [(3, .v ⟨false, false, (.int .i64)⟩)]⟩ .nil .nil))))) (.two .nil (.join ⟨[6], [(6, .v ⟨true, false, (.sl 73 (.pr (.int .i64) (.pr .str (.pr (.int .i64) (.pr (.int .i64) (.pr (.int .i64) (.pr .bool (.pr (.sl 3 (.int .i64)) .un))))))))⟩)]⟩ (.two .nil (.loop ⟨[6, 27], [(6, .v ⟨true, false, (.sl 73 (.pr (.int .i64) (.pr .str (.pr (.int .i64) (.pr (.int .i64) (.pr (.int .i64) (.pr .bool (.pr (.sl 3 (.int .i64)) .un))))))))⟩), (27, .v ⟨false, false, (.int .i64)⟩)]⟩ .nil)) .nil))))) } }
noncomputable def i_slices_Grow_LimplNode : Inst := { f := 124, fn := Try.f124, n := 27, pds := [.ow true 73 (.pr (.int .i64) (.pr .str (.pr (.int .i64) (.pr (.int .i64) (.pr (.int .i64) (.pr .bool (.pr (.sl 3 (.int .i64)) .un))))))), .rd (.int .i64)], caps := [], res := [⟨true, false, (.sl 73 (.pr (.int .i64) (.pr .str (.pr (.int .i64) (.pr (.int .i64) (.pr (.int .i64) (.pr .bool (.pr (.sl 3 (.int .i64)) .un))))))))⟩], h := { al := [], el := [], tk := [25], nn := [], hi := [22], ca := [], code := .nil } }
noncomputable def i_laws_eqNodeS : Inst := { f := 22, fn := Try.f22, n := 27, pds := [.rd (.sl 73 (.pr (.int .i64) (.pr .str (.pr (.int .i64) (.pr (.int .i64) (.pr (.int .i64) (.pr .bool (.pr (.sl 3 (.int .i64)) .un)))))))), .rd (.sl 73 (.pr (.int .i64) (.pr .str (.pr (.int .i64) (.pr (.int .i64) (.pr (.int .i64) (.pr .bool (.pr (.sl 3 (.int .i64)) .un))))))))], caps := [], res := [⟨false, false, .bool⟩], h := { al := [], el := [], tk := [], nn := [], ca := [(25, 83)], code := (.two .nil (.two .nil (.join ⟨[4], [(4, .v ⟨false, false, .bool⟩)]⟩ (.two .nil (.loop ⟨[4, 5], [(4, .v ⟨false, false, .bool⟩), (5, .v ⟨false, false, (.int .i64)⟩)]⟩ .nil)) .nil))) } }
noncomputable def i_laws_eqNode : Inst := { f := 62, fn := Try.f62, n := 41, pds := [.rd (.pr (.int .i64) (.pr .str (.pr (.int .i64) (.pr (.int .i64) (.pr (.int .i64) (.pr .bool (.pr (.sl 3 (.int .i64)) .un))))))), .rd (.pr (.int .i64) (.pr .str (.pr (.int .i64) (.pr (.int .i64) (.pr (.int .i64) (.pr .bool (.pr (.sl 3 (.int .i64)) .un)))))))], caps := [], res := [⟨false, false, .bool⟩], h := { al := [], el := [], tk := [], nn := [], ca := [(39, 84)], code := .nil } }
noncomputable def i_laws_eqIntS : Inst := { f := 21, fn := Try.f21, n := 26, pds := [.rd (.sl 3 (.int .i64)), .rd (.sl 3 (.int .i64))], caps := [], res := [⟨false, false, .bool⟩], h := { al := [], el := [], tk := [], nn := [], ca := [], code := (.two .nil (.two .nil (.join ⟨[4], [(4, .v ⟨false, false, .bool⟩)]⟩ (.two .nil (.loop ⟨[4, 5], [(4, .v ⟨false, false, .bool⟩), (5, .v ⟨false, false, (.int .i64)⟩)]⟩ .nil)) .nil))) } }
noncomputable def i_laws_eqStepS : Inst := { f := 44, fn := Try.f44, n := 27, pds := [.rd (.sl 50 (.pr (.int .i64) (.pr (.int .i64) .un))), .rd (.sl 50 (.pr (.int .i64) (.pr (.int .i64) .un)))], caps := [], res := [⟨false, false, .bool⟩], h := { al := [], el := [], tk := [], nn := [], ca := [(25, 86)], code := (.two .nil (.two .nil (.join ⟨[4], [(4, .v ⟨false, false, .bool⟩)]⟩ (.two .nil (.loop ⟨[4, 5], [(4, .v ⟨false, false, .bool⟩), (5, .v ⟨false, false, (.int .i64)⟩)]⟩ .nil)) .nil))) } }
noncomputable def i_laws_eqStep : Inst := { f := 39, fn := Try.f39, n := 15, pds := [.rd (.pr (.int .i64) (.pr (.int .i64) .un)), .rd (.pr (.int .i64) (.pr (.int .i64) .un))], caps := [], res := [⟨false, false, .bool⟩], h := { al := [], el := [], tk := [], nn := [], ca := [], code := .nil } }
noncomputable def i_laws_eqTableS : Inst := { f := 20, fn := Try.f20, n := 27, pds := [.rd (.sl 71 (.pr .str (.pr (.int .i64) .un))), .rd (.sl 71 (.pr .str (.pr (.int .i64) .un)))], caps := [], res := [⟨false, false, .bool⟩], h := { al := [], el := [], tk := [], nn := [], ca := [(25, 88)], code := (.two .nil (.two .nil (.join ⟨[4], [(4, .v ⟨false, false, .bool⟩)]⟩ (.two .nil (.loop ⟨[4, 5], [(4, .v ⟨false, false, .bool⟩), (5, .v ⟨false, false, (.int .i64)⟩)]⟩ .nil)) .nil))) } }
noncomputable def i_laws_eqTable : Inst := { f := 61, fn := Try.f61, n := 15, pds := [.rd (.pr .str (.pr (.int .i64) .un)), .rd (.pr .str (.pr (.int .i64) .un))], caps := [], res := [⟨false, false, .bool⟩], h := { al := [], el := [], tk := [], nn := [], ca := [], code := .nil } }
noncomputable def i_laws_markTableS : Inst := { f := 30, fn := Try.f30, n := 28, pds := [.mu true true 71 (.pr .str (.pr (.int .i64) .un)), .rd (.int .i64)], caps := [], res := [⟨false, false, (.int .i64)⟩], h := { al := [], el := [16, 23], tk := [], nn := [], ca := [(15, 90)], code := (.two .nil (.join ⟨[0, 1, 28], [(1, .v ⟨false, false, (.int .i64)⟩), (28, .v ⟨true, true, (.sl 71 (.pr .str (.pr (.int .i64) .un)))⟩)]⟩ (.two .nil (.loop ⟨[0, 1, 5, 28], [(0, .fix (.eq 28)), (1, .v ⟨false, false, (.int .i64)⟩), (5, .v ⟨false, false, (.int .i64)⟩), (28, .v ⟨true, true, (.sl 71 (.pr .str (.pr (.int .i64) .un)))⟩)]⟩ .nil)) .nil)) } }
noncomputable def i_laws_markText : Inst := { f := 71, fn := Try.f71, n := 20, pds := [.rd (.int .i64)], caps := [], res := [⟨false, false, .str⟩], h := { al := [], el := [], tk := [], nn := [], ca := [], code := (.two .nil (.two .nil (.two .nil (.join ⟨[0, 3], [(3, .v ⟨false, false, .str⟩)]⟩ (.loop ⟨[0, 3], [(0, .v ⟨false, false, (.int .i64)⟩), (3, .v ⟨false, false, .str⟩)]⟩ .nil) .nil)))) } }
noncomputable def i_laws_markIntS : Inst := { f := 46, fn := Try.f46, n := 19, pds := [.mu true true 3 (.int .i64), .rd (.int .i64)], caps := [], res := [⟨false, false, (.int .i64)⟩], h := { al := [], el := [15], tk := [], nn := [], ca := [], code := (.two .nil (.join ⟨[0, 1, 19], [(1, .v ⟨false, false, (.int .i64)⟩), (19, .v ⟨true, true, (.sl 3 (.int .i64))⟩)]⟩ (.two .nil (.loop ⟨[0, 1, 5, 19], [(0, .fix (.eq 19)), (1, .v ⟨false, false, (.int .i64)⟩), (5, .v ⟨false, false, (.int .i64)⟩), (19, .v ⟨true, true, (.sl 3 (.int .i64))⟩)]⟩ .nil)) .nil)) } }
noncomputable def i_laws_markNodeS : Inst := { f := 45, fn := Try.f45, n := 65, pds := [.mu true true 73 (.pr (.int .i64) (.pr .str (.pr (.int .i64) (.pr (.int .i64) (.pr (.int .i64) (.pr .bool (.pr (.sl 3 (.int .i64)) .un))))))), .rd (.int .i64)], caps := [], res := [⟨false, false, (.int .i64)⟩], h := { al := [], el := [15, 23, 30, 37, 44, 53, 59], tk := [], nn := [61], ca := [(22, 90), (63, 91)], code := (.two .nil (.join ⟨[0, 1, 65], [(1, .v ⟨false, false, (.int .i64)⟩), (65, .v ⟨true, true, (.sl 73 (.pr (.int .i64) (.pr .str (.pr (.int .i64) (.pr (.int .i64) (.pr (.int .i64) (.pr .bool (.pr (.sl 3 (.int .i64)) .un))))))))⟩)]⟩ (.two .nil (.loop ⟨[0, 1, 5, 65], [(0, .fix (.eq 65)), (1, .v ⟨false, false, (.int .i64)⟩), (5, .v ⟨false, false, (.int .i64)⟩), (65, .v ⟨true, true, (.sl 73 (.pr (.int .i64) (.pr .str (.pr (.int .i64) (.pr (.int .i64) (.pr (.int .i64) (.pr .bool (.pr (.sl 3 (.int .i64)) .un))))))))⟩)]⟩ .nil)) .nil)) } }
noncomputable def i_laws_markStepS : Inst := { f := 47, fn := Try.f47, n := 27, pds := [.mu true true 50 (.pr (.int .i64) (.pr (.int .i64) .un)), .rd (.int .i64)], caps := [], res := [⟨false, false, (.int .i64)⟩], h := { al := [], el := [15, 22], tk := [], nn := [], ca := [], code := (.two .nil (.join ⟨[0, 1, 27], [(1, .v ⟨false, false, (.int .i64)⟩), (27, .v ⟨true, true, (.sl 50 (.pr (.int .i64) (.pr (.int .i64) .un)))⟩)]⟩ (.two .nil (.loop ⟨[0, 1, 5, 27], [(0, .fix (.eq 27)), (1, .v ⟨false, false, (.int .i64)⟩), (5, .v ⟨false, false, (.int .i64)⟩), (27, .v ⟨true, true, (.sl 50 (.pr (.int .i64) (.pr (.int .i64) .un)))⟩)]⟩ .nil)) .nil)) } }
noncomputable def i_laws_heldNodeS : Inst := { f := 48, fn := Try.f48, n := 79, pds := [.rd (.sl 73 (.pr (.int .i64) (.pr .str (.pr (.int .i64) (.pr (.int .i64) (.pr (.int .i64) (.pr .bool (.pr (.sl 3 (.int .i64)) .un)))))))), .rd (.int .i64)], caps := [], res := [⟨false, false, (.int .i64)⟩], h := { al := [], el := [], tk := [], nn := [], ca := [(27, 90), (75, 95)], code := (.two .nil (.join ⟨[1, 4], [(1, .v ⟨false, false, (.int .i64)⟩), (4, .v ⟨false, false, (.int .i64)⟩)]⟩ (.two .nil (.loop ⟨[1, 4, 5], [(1, .v ⟨false, false, (.int .i64)⟩), (4, .v ⟨false, false, (.int .i64)⟩), (5, .v ⟨false, false, (.int .i64)⟩)]⟩ .nil)) .nil)) } }
noncomputable def i_laws_heldIntS : Inst := { f := 82, fn := Try.f82, n := 21, pds := [.rd (.sl 3 (.int .i64)), .rd (.int .i64)], caps := [], res := [⟨false, false, (.int .i64)⟩], h := { al := [], el := [], tk := [], nn := [], ca := [], code := (.two .nil (.join ⟨[1, 4], [(1, .v ⟨false, false, (.int .i64)⟩), (4, .v ⟨false, false, (.int .i64)⟩)]⟩ (.two .nil (.loop ⟨[1, 4, 5], [(1, .v ⟨false, false, (.int .i64)⟩), (4, .v ⟨false, false, (.int .i64)⟩), (5, .v ⟨false, false, (.int .i64)⟩)]⟩ .nil)) .nil)) } }
noncomputable def i_laws_heldStepS : Inst := { f := 49, fn := Try.f49, n := 31, pds := [.rd (.sl 50 (.pr (.int .i64) (.pr (.int .i64) .un))), .rd (.int .i64)], caps := [], res := [⟨false, false, (.int .i64)⟩], h := { al := [], el := [], tk := [], nn := [], ca := [], code := (.two .nil (.join ⟨[1, 4], [(1, .v ⟨false, false, (.int .i64)⟩), (4, .v ⟨false, false, (.int .i64)⟩)]⟩ (.two .nil (.loop ⟨[1, 4, 5], [(1, .v ⟨false, false, (.int .i64)⟩), (4, .v ⟨false, false, (.int .i64)⟩), (5, .v ⟨false, false, (.int .i64)⟩)]⟩ .nil)) .nil)) } }
noncomputable def FTL : List Inst := [i_laws_FnExactImprove, i_laws_szTableS, i_laws_szTable, i_laws_szNodeS, i_laws_szNode, i_laws_szIntS, i_laws_toTableS, i_laws_toTable, i_laws_toIntS, i_laws_toNodeS, i_laws_toNode, i_spec_Improve, i_spec_l02Copy, i_spec_l01Copy, i_spec_CostOf, i_spec_l12Good, i_spec_TypedOk, i_spec_WidthOf, i_spec_SchemaOk, i_spec_WordOk, i_spec_l01In, i_spec_l01Less, i_spec_PlanOk, i_spec_NodeOk, i_spec_l02Col, i_spec_l01Number, i_spec_l02End, i_spec_ArityOf, i_spec_l03Width, i_spec_l02Kids, i_spec_l03Find, i_spec_l12Guess, i_spec_l12Cut, i_spec_BestStep, i_spec_StepsAt, i_spec_ApplyStep, i_spec_l08Two, i_spec_l08Part, i_spec_l02Joined, i_impl_Improve, i_impl_own, i_slices_Clone_Lint, i_impl_BestStep, i_impl_CostOf, i_impl_reckon, i_impl_TypedOk, i_impl_WidthOf, i_impl_SchemaOk, i_impl_WordOk, i_impl_in, i_impl_PlanOk, i_slices_ContainsFunc_LimplNode_impl_PlanOk_1, i_slices_IndexFunc_LimplNode_impl_PlanOk_1, i_impl_PlanOk_1, i_impl_NodeOk, i_impl_isCol, i_impl_isSlot, i_impl_isNum, i_slices_ContainsFunc_Lint_impl_NodeOk_1, i_slices_IndexFunc_Lint_impl_NodeOk_1, i_impl_NodeOk_1, i_impl_sameNode, i_slices_Equal_Lint, i_impl_end, i_impl_ArityOf, i_impl_width, i_impl_children, i_impl_tableAt, i_slices_IndexFunc_LimplTable_impl_tableAt_1, i_impl_tableAt_1, i_slices_Max_Lint, i_impl_sizesOk, i_slices_ContainsFunc_Lint_impl_sizesOk_1, i_slices_IndexFunc_Lint_impl_sizesOk_1, i_impl_sizesOk_1, i_impl_guess, i_impl_StepsAt, i_impl_apply, i_impl_turned, i_impl_over, i_slices_Concat_LimplNode, i_slices_Grow_LimplNode, i_laws_eqNodeS, i_laws_eqNode, i_laws_eqIntS, i_laws_eqStepS, i_laws_eqStep, i_laws_eqTableS, i_laws_eqTable, i_laws_markTableS, i_laws_markText, i_laws_markIntS, i_laws_markNodeS, i_laws_markStepS, i_laws_heldNodeS, i_laws_heldIntS, i_laws_heldStepS]
noncomputable def FT (j : Nat) : Inst := FTL.getD j i_laws_FnExactImprove
noncomputable def SP (j : Nat) : Option (InVals (FT j) → Option (Tup (outTys (FT j)))) := none
theorem ft_ok : FTok Try.prog tt FT SP := FTok.of tt_ok (by kernel_rfl) ⟨Try.func12, Try.func12, Try.func13, Try.func54, Try.func14, Try.func55, Try.func83, Try.func16, Try.func58, Try.func17, Try.func18, Try.func59, Try.func52, Try.func77, Try.func108, Try.func23, Try.func56, Try.func72, Try.func97, Try.func119, Try.func134, Try.func84, Try.func135, Try.func102, Try.func121, Try.func136, Try.func137, Try.func100, Try.func110, Try.func120, Try.func85, Try.func86, Try.func57, Try.func63, Try.func37, Try.func73, Try.func74, Try.func98, Try.func99, Try.func101, Try.func53, Try.func68, Try.func94, Try.func38, Try.func24, Try.func60, Try.func87, Try.func111, Try.func129, Try.func140, Try.func103, Try.func107, Try.func126, Try.func139, Try.func127, Try.func128, Try.func141, Try.func142, Try.func143, Try.func112, Try.func130, Try.func144, Try.func145, Try.func146, Try.func106, Try.func125, Try.func123, Try.func114, Try.func115, Try.func131, Try.func132, Try.func138, Try.func88, Try.func112, Try.func130, Try.func113, Try.func89, Try.func75, Try.func76, Try.func104, Try.func122, Try.func105, Try.func124, Try.func22, Try.func62, Try.func21, Try.func44, Try.func39, Try.func20, Try.func61, Try.func30, Try.func71, Try.func46, Try.func45, Try.func47, Try.func48, Try.func82, Try.func49, trivial⟩ (by kernel_rfl) (fun _ _ h => by cases h)
noncomputable def F_laws_FnExactImprove (a0 : List STable) (a1 : List Int) (a2 : List SNode) : Option Bool := callL tt FT SP 0 (show InVals (FT 0) from ((a0, a1, a2, ()), (())))
noncomputable def F_laws_szTableS (a0 : List STable) (a1 : Int) : Option Int := callL tt FT SP 1 (show InVals (FT 1) from ((a0, a1, ()), (())))
noncomputable def F_laws_szTable (a0 : STable) (a1 : Int) : Option Int := callL tt FT SP 2 (show InVals (FT 2) from ((a0, a1, ()), (())))
noncomputable def F_laws_szNodeS (a0 : List SNode) (a1 : Int) : Option Int := callL tt FT SP 3 (show InVals (FT 3) from ((a0, a1, ()), (())))
noncomputable def F_laws_szNode (a0 : SNode) (a1 : Int) : Option Int := callL tt FT SP 4 (show InVals (FT 4) from ((a0, a1, ()), (())))
noncomputable def F_laws_szIntS (a0 : List Int) (a1 : Int) : Option Int := callL tt FT SP 5 (show InVals (FT 5) from ((a0, a1, ()), (())))
noncomputable def F_laws_toTableS (a0 : List STable) : Option (List STable) := callL tt FT SP 6 (show InVals (FT 6) from ((a0, ()), (())))
noncomputable def F_laws_toTable (a0 : STable) : Option STable := callL tt FT SP 7 (show InVals (FT 7) from ((a0, ()), (())))
noncomputable def F_laws_toIntS (a0 : List Int) : Option (List Int) := callL tt FT SP 8 (show InVals (FT 8) from ((a0, ()), (())))
noncomputable def F_laws_toNodeS (a0 : List SNode) : Option (List SNode) := callL tt FT SP 9 (show InVals (FT 9) from ((a0, ()), (())))
noncomputable def F_laws_toNode (a0 : SNode) : Option SNode := callL tt FT SP 10 (show InVals (FT 10) from ((a0, ()), (())))
noncomputable def F_spec_Improve (a0 : List STable) (a1 : List Int) (a2 : List SNode) : Option ((List SNode) × (List SStep)) := callL tt FT SP 11 (show InVals (FT 11) from ((a0, a1, a2, ()), (())))
noncomputable def F_spec_l02Copy (a0 : List SNode) : Option (List SNode) := callL tt FT SP 12 (show InVals (FT 12) from ((a0, ()), (())))
noncomputable def F_spec_l01Copy (a0 : List Int) : Option (List Int) := callL tt FT SP 13 (show InVals (FT 13) from ((a0, ()), (())))
noncomputable def F_spec_CostOf (a0 : List STable) (a1 : List Int) (a2 : List SNode) : Option Int := callL tt FT SP 14 (show InVals (FT 14) from ((a0, a1, a2, ()), (())))
noncomputable def F_spec_l12Good (a0 : List STable) (a1 : List Int) (a2 : List SNode) : Option Bool := callL tt FT SP 15 (show InVals (FT 15) from ((a0, a1, a2, ()), (())))
noncomputable def F_spec_TypedOk (a0 : List STable) (a1 : List SNode) : Option Bool := callL tt FT SP 16 (show InVals (FT 16) from ((a0, a1, ()), (())))
noncomputable def F_spec_WidthOf (a0 : List STable) (a1 : List SNode) : Option Int := callL tt FT SP 17 (show InVals (FT 17) from ((a0, a1, ()), (())))
noncomputable def F_spec_SchemaOk (a0 : List STable) : Option Bool := callL tt FT SP 18 (show InVals (FT 18) from ((a0, ()), (())))
noncomputable def F_spec_WordOk (a0 : ByteArray) : Option Bool := callL tt FT SP 19 (show InVals (FT 19) from ((a0, ()), (())))
noncomputable def F_spec_l01In (a0 : Int) (a1 : Int) (a2 : Int) : Option Bool := callL tt FT SP 20 (show InVals (FT 20) from ((a0, a1, a2, ()), (())))
noncomputable def F_spec_l01Less (a0 : ByteArray) (a1 : ByteArray) : Option Bool := callL tt FT SP 21 (show InVals (FT 21) from ((a0, a1, ()), (())))
noncomputable def F_spec_PlanOk (a0 : List SNode) : Option Bool := callL tt FT SP 22 (show InVals (FT 22) from ((a0, ()), (())))
noncomputable def F_spec_NodeOk (a0 : SNode) : Option Bool := callL tt FT SP 23 (show InVals (FT 23) from ((a0, ()), (())))
noncomputable def F_spec_l02Col (a0 : Int) : Option Bool := callL tt FT SP 24 (show InVals (FT 24) from ((a0, ()), (())))
noncomputable def F_spec_l01Number (a0 : Int) : Option Bool := callL tt FT SP 25 (show InVals (FT 25) from ((a0, ()), (())))
noncomputable def F_spec_l02End (a0 : List SNode) (a1 : Int) (a2 : Int) : Option (Int × Int) := callL tt FT SP 26 (show InVals (FT 26) from ((a0, a1, a2, ()), (())))
noncomputable def F_spec_ArityOf (a0 : Int) : Option Int := callL tt FT SP 27 (show InVals (FT 27) from ((a0, ()), (())))
noncomputable def F_spec_l03Width (a0 : List STable) (a1 : List SNode) (a2 : Int) : Option Int := callL tt FT SP 28 (show InVals (FT 28) from ((a0, a1, a2, ()), (())))
noncomputable def F_spec_l02Kids (a0 : List SNode) (a1 : Int) : Option (List Int) := callL tt FT SP 29 (show InVals (FT 29) from ((a0, a1, ()), (())))
noncomputable def F_spec_l03Find (a0 : List STable) (a1 : ByteArray) : Option Int := callL tt FT SP 30 (show InVals (FT 30) from ((a0, a1, ()), (())))
noncomputable def F_spec_l12Guess (a0 : List STable) (a1 : List Int) (a2 : List SNode) (a3 : Int) : Option Int := callL tt FT SP 31 (show InVals (FT 31) from ((a0, a1, a2, a3, ()), (())))
noncomputable def F_spec_l12Cut (a0 : Int) : Option Int := callL tt FT SP 32 (show InVals (FT 32) from ((a0, ()), (())))
noncomputable def F_spec_BestStep (a0 : List STable) (a1 : List Int) (a2 : List SNode) : Option (SStep × Bool) := callL tt FT SP 33 (show InVals (FT 33) from ((a0, a1, a2, ()), (())))
noncomputable def F_spec_StepsAt (a0 : List STable) (a1 : List SNode) : Option (List SStep) := callL tt FT SP 34 (show InVals (FT 34) from ((a0, a1, ()), (())))
noncomputable def F_spec_ApplyStep (a0 : List STable) (a1 : List SNode) (a2 : SStep) : Option ((List SNode) × Bool) := callL tt FT SP 35 (show InVals (FT 35) from ((a0, a1, a2, ()), (())))
noncomputable def F_spec_l08Two (a0 : Int) : Option (Int × Int) := callL tt FT SP 36 (show InVals (FT 36) from ((a0, ()), (())))
noncomputable def F_spec_l08Part (a0 : List STable) (a1 : List SNode) (a2 : Int) (a3 : Int) : Option ((List SNode) × Bool) := callL tt FT SP 37 (show InVals (FT 37) from ((a0, a1, a2, a3, ()), (())))
noncomputable def F_spec_l02Joined (a0 : List (List SNode)) : Option (List SNode) := callL tt FT SP 38 (show InVals (FT 38) from ((a0, ()), (())))
noncomputable def F_impl_Improve (a0 : List STable) (a1 : List Int) (a2 : List SNode) : Option ((List SNode) × (List SStep)) := callL tt FT SP 39 (show InVals (FT 39) from ((a0, a1, a2, ()), (())))
noncomputable def F_impl_own (a0 : List SNode) : Option (List SNode) := callL tt FT SP 40 (show InVals (FT 40) from ((a0, ()), (())))
noncomputable def F_slices_Clone_Lint (a0 : List Int) : Option (List Int) := callL tt FT SP 41 (show InVals (FT 41) from ((a0, ()), (())))
noncomputable def F_impl_BestStep (a0 : List STable) (a1 : List Int) (a2 : List SNode) : Option (SStep × Bool) := callL tt FT SP 42 (show InVals (FT 42) from ((a0, a1, a2, ()), (())))
noncomputable def F_impl_CostOf (a0 : List STable) (a1 : List Int) (a2 : List SNode) : Option Int := callL tt FT SP 43 (show InVals (FT 43) from ((a0, a1, a2, ()), (())))
noncomputable def F_impl_reckon (a0 : List STable) (a1 : List Int) (a2 : List SNode) : Option (Int × Int) := callL tt FT SP 44 (show InVals (FT 44) from ((a0, a1, a2, ()), (())))
noncomputable def F_impl_TypedOk (a0 : List STable) (a1 : List SNode) : Option Bool := callL tt FT SP 45 (show InVals (FT 45) from ((a0, a1, ()), (())))
noncomputable def F_impl_WidthOf (a0 : List STable) (a1 : List SNode) : Option Int := callL tt FT SP 46 (show InVals (FT 46) from ((a0, a1, ()), (())))
noncomputable def F_impl_SchemaOk (a0 : List STable) : Option Bool := callL tt FT SP 47 (show InVals (FT 47) from ((a0, ()), (())))
noncomputable def F_impl_WordOk (a0 : ByteArray) : Option Bool := callL tt FT SP 48 (show InVals (FT 48) from ((a0, ()), (())))
noncomputable def F_impl_in (a0 : Int) (a1 : Int) (a2 : Int) : Option Bool := callL tt FT SP 49 (show InVals (FT 49) from ((a0, a1, a2, ()), (())))
noncomputable def F_impl_PlanOk (a0 : List SNode) : Option Bool := callL tt FT SP 50 (show InVals (FT 50) from ((a0, ()), (())))
noncomputable def F_slices_ContainsFunc_LimplNode_impl_PlanOk_1 (a0 : List SNode) : Option Bool := callL tt FT SP 51 (show InVals (FT 51) from ((a0, (()), ()), (())))
noncomputable def F_slices_IndexFunc_LimplNode_impl_PlanOk_1 (a0 : List SNode) : Option Int := callL tt FT SP 52 (show InVals (FT 52) from ((a0, (()), ()), (())))
noncomputable def F_impl_PlanOk_1 (a0 : SNode) : Option Bool := callL tt FT SP 53 (show InVals (FT 53) from ((a0, ()), (())))
noncomputable def F_impl_NodeOk (a0 : SNode) : Option Bool := callL tt FT SP 54 (show InVals (FT 54) from ((a0, ()), (())))
noncomputable def F_impl_isCol (a0 : Int) : Option Bool := callL tt FT SP 55 (show InVals (FT 55) from ((a0, ()), (())))
noncomputable def F_impl_isSlot (a0 : Int) : Option Bool := callL tt FT SP 56 (show InVals (FT 56) from ((a0, ()), (())))
noncomputable def F_impl_isNum (a0 : Int) : Option Bool := callL tt FT SP 57 (show InVals (FT 57) from ((a0, ()), (())))
noncomputable def F_slices_ContainsFunc_Lint_impl_NodeOk_1 (a0 : List Int) : Option Bool := callL tt FT SP 58 (show InVals (FT 58) from ((a0, (()), ()), (())))
noncomputable def F_slices_IndexFunc_Lint_impl_NodeOk_1 (a0 : List Int) : Option Int := callL tt FT SP 59 (show InVals (FT 59) from ((a0, (()), ()), (())))
noncomputable def F_impl_NodeOk_1 (a0 : Int) : Option Bool := callL tt FT SP 60 (show InVals (FT 60) from ((a0, ()), (())))
noncomputable def F_impl_sameNode (a0 : SNode) (a1 : SNode) : Option Bool := callL tt FT SP 61 (show InVals (FT 61) from ((a0, a1, ()), (())))
noncomputable def F_slices_Equal_Lint (a0 : List Int) (a1 : List Int) : Option Bool := callL tt FT SP 62 (show InVals (FT 62) from ((a0, a1, ()), (())))
noncomputable def F_impl_end (a0 : List SNode) (a1 : Int) (a2 : Int) : Option Int := callL tt FT SP 63 (show InVals (FT 63) from ((a0, a1, a2, ()), (())))
noncomputable def F_impl_ArityOf (a0 : Int) : Option Int := callL tt FT SP 64 (show InVals (FT 64) from ((a0, ()), (())))
noncomputable def F_impl_width (a0 : List STable) (a1 : List SNode) (a2 : Int) : Option Int := callL tt FT SP 65 (show InVals (FT 65) from ((a0, a1, a2, ()), (())))
noncomputable def F_impl_children (a0 : List SNode) (a1 : Int) : Option (List Int) := callL tt FT SP 66 (show InVals (FT 66) from ((a0, a1, ()), (())))
noncomputable def F_impl_tableAt (a0 : List STable) (a1 : ByteArray) : Option Int := callL tt FT SP 67 (show InVals (FT 67) from ((a0, a1, ()), (())))
noncomputable def F_slices_IndexFunc_LimplTable_impl_tableAt_1 (a0 : List STable) (a1x0x0 : ByteArray) : Option (Int × ByteArray) := callL tt FT SP 68 (show InVals (FT 68) from ((a0, ((a1x0x0, ()), ()), ()), (())))
noncomputable def F_impl_tableAt_1 (a0 : STable) (c0x0 : ByteArray) : Option (Bool × ByteArray) := callL tt FT SP 69 (show InVals (FT 69) from ((a0, ()), ((c0x0, ()), ())))
noncomputable def F_slices_Max_Lint (a0 : List Int) : Option Int := callL tt FT SP 70 (show InVals (FT 70) from ((a0, ()), (())))
noncomputable def F_impl_sizesOk (a0 : List STable) (a1 : List Int) : Option Bool := callL tt FT SP 71 (show InVals (FT 71) from ((a0, a1, ()), (())))
noncomputable def F_slices_ContainsFunc_Lint_impl_sizesOk_1 (a0 : List Int) : Option Bool := callL tt FT SP 72 (show InVals (FT 72) from ((a0, (()), ()), (())))
noncomputable def F_slices_IndexFunc_Lint_impl_sizesOk_1 (a0 : List Int) : Option Int := callL tt FT SP 73 (show InVals (FT 73) from ((a0, (()), ()), (())))
noncomputable def F_impl_sizesOk_1 (a0 : Int) : Option Bool := callL tt FT SP 74 (show InVals (FT 74) from ((a0, ()), (())))
noncomputable def F_impl_guess (a0 : List STable) (a1 : List Int) (a2 : List SNode) (a3 : Int) (a4x0 : Int) : Option (Int × Int) := callL tt FT SP 75 (show InVals (FT 75) from ((a0, a1, a2, a3, (a4x0, ()), ()), (())))
noncomputable def F_impl_StepsAt (a0 : List STable) (a1 : List SNode) : Option (List SStep) := callL tt FT SP 76 (show InVals (FT 76) from ((a0, a1, ()), (())))
noncomputable def F_impl_apply (a0 : List STable) (a1 : List SNode) (a2 : SStep) : Option ((List SNode) × Bool) := callL tt FT SP 77 (show InVals (FT 77) from ((a0, a1, a2, ()), (())))
noncomputable def F_impl_turned (a0 : List STable) (a1 : List SNode) (a2 : SStep) : Option ((List SNode) × Bool) := callL tt FT SP 78 (show InVals (FT 78) from ((a0, a1, a2, ()), (())))
noncomputable def F_impl_over (a0 : Int) : Option (Int × Int) := callL tt FT SP 79 (show InVals (FT 79) from ((a0, ()), (())))
noncomputable def F_slices_Concat_LimplNode (a0 : List (List SNode)) : Option (List SNode) := callL tt FT SP 80 (show InVals (FT 80) from ((a0, ()), (())))
noncomputable def F_slices_Grow_LimplNode (a1 : Int) : Option (List SNode) := callL tt FT SP 81 (show InVals (FT 81) from (([], a1, ()), (())))
noncomputable def F_laws_eqNodeS (a0 : List SNode) (a1 : List SNode) : Option Bool := callL tt FT SP 82 (show InVals (FT 82) from ((a0, a1, ()), (())))
noncomputable def F_laws_eqNode (a0 : SNode) (a1 : SNode) : Option Bool := callL tt FT SP 83 (show InVals (FT 83) from ((a0, a1, ()), (())))
noncomputable def F_laws_eqIntS (a0 : List Int) (a1 : List Int) : Option Bool := callL tt FT SP 84 (show InVals (FT 84) from ((a0, a1, ()), (())))
noncomputable def F_laws_eqStepS (a0 : List SStep) (a1 : List SStep) : Option Bool := callL tt FT SP 85 (show InVals (FT 85) from ((a0, a1, ()), (())))
noncomputable def F_laws_eqStep (a0 : SStep) (a1 : SStep) : Option Bool := callL tt FT SP 86 (show InVals (FT 86) from ((a0, a1, ()), (())))
noncomputable def F_laws_eqTableS (a0 : List STable) (a1 : List STable) : Option Bool := callL tt FT SP 87 (show InVals (FT 87) from ((a0, a1, ()), (())))
noncomputable def F_laws_eqTable (a0 : STable) (a1 : STable) : Option Bool := callL tt FT SP 88 (show InVals (FT 88) from ((a0, a1, ()), (())))
noncomputable def F_laws_markTableS (a0 : List STable) (a1 : Int) : Option (Int × (List STable)) := callL tt FT SP 89 (show InVals (FT 89) from ((a0, a1, ()), (())))
noncomputable def F_laws_markText (a0 : Int) : Option ByteArray := callL tt FT SP 90 (show InVals (FT 90) from ((a0, ()), (())))
noncomputable def F_laws_markIntS (a0 : List Int) (a1 : Int) : Option (Int × (List Int)) := callL tt FT SP 91 (show InVals (FT 91) from ((a0, a1, ()), (())))
noncomputable def F_laws_markNodeS (a0 : List SNode) (a1 : Int) : Option (Int × (List SNode)) := callL tt FT SP 92 (show InVals (FT 92) from ((a0, a1, ()), (())))
noncomputable def F_laws_markStepS (a0 : List SStep) (a1 : Int) : Option (Int × (List SStep)) := callL tt FT SP 93 (show InVals (FT 93) from ((a0, a1, ()), (())))
noncomputable def F_laws_heldNodeS (a0 : List SNode) (a1 : Int) : Option Int := callL tt FT SP 94 (show InVals (FT 94) from ((a0, a1, ()), (())))
noncomputable def F_laws_heldIntS (a0 : List Int) (a1 : Int) : Option Int := callL tt FT SP 95 (show InVals (FT 95) from ((a0, a1, ()), (())))
noncomputable def F_laws_heldStepS (a0 : List SStep) (a1 : Int) : Option Int := callL tt FT SP 96 (show InVals (FT 96) from ((a0, a1, ()), (())))
@[simp] noncomputable def J_laws_FnExactImprovex2 (y26 : (Int × (List SNode))) (y27 : (Int × (List SStep))) (v36 : Bool) : Option Bool :=
  (bif v36 then
  some false
  else (F_laws_heldNodeS y26.2 1).bind (fun y37 => (bif (decide (y37 < 0)) then
  some false
  else (F_laws_heldStepS y27.2 y37).bind (fun y38 => (bif (decide (y38 < 0)) then
  some false
  else (bif (y38 != y27.1) then
  some false
  else some true))))))
@[simp] noncomputable def J_laws_FnExactImprovex1 (a0 : List STable) (a1 : List Int) (a2 : List SNode) (y6 : ((List SNode) × (List SStep))) (y10 : ((List SNode) × (List SStep))) (v25 : Bool) : Option Bool :=
  (bif v25 then
  some false
  else (F_laws_markNodeS y10.1 1).bind (fun y26 => (F_laws_markStepS y10.2 y26.1).bind (fun y27 => (F_laws_heldNodeS y26.2 1).bind (fun y28 => (bif (decide (y28 < 0)) then
  some false
  else (F_laws_heldStepS y27.2 y28).bind (fun y29 => (bif (decide (y29 < 0)) then
  some false
  else (bif (y29 != y27.1) then
  some false
  else (F_laws_toTableS a0).bind (fun y30 => (F_laws_toIntS a1).bind (fun y31 => (F_laws_toNodeS a2).bind (fun y32 => (F_impl_Improve y30 y31 y32).bind (fun y33 => joinK ((F_laws_eqNodeS y33.1 y6.1).bind (fun y34 => (bif (!y34) then
  some (.go true)
  else (F_laws_eqStepS y33.2 y6.2).bind (fun y35 => some (.go (!y35))))))
  (fun s => J_laws_FnExactImprovex2 y26 y27 s)))))))))))))
@[simp] noncomputable def J_laws_FnExactImprovex0 (a0 : List STable) (a1 : List Int) (a2 : List SNode) (y6 : ((List SNode) × (List SStep))) (y7 : List STable) (y8 : List Int) (y9 : List SNode) (y10 : ((List SNode) × (List SStep))) (v13 : Bool) : Option Bool :=
  (bif v13 then
  some false
  else (F_laws_toTableS a0).bind (fun y14 => (F_laws_eqTableS y7 y14).bind (fun y15 => (bif (!y15) then
  some false
  else (F_laws_toIntS a1).bind (fun y16 => (F_laws_eqIntS y8 y16).bind (fun y17 => (bif (!y17) then
  some false
  else (F_laws_toNodeS a2).bind (fun y18 => (F_laws_eqNodeS y9 y18).bind (fun y19 => (bif (!y19) then
  some false
  else (F_laws_markTableS y7 1).bind (fun y20 => (F_laws_markIntS y8 y20.1).bind (fun y21 => (F_laws_markNodeS y9 y21.1).bind (fun y22 => joinK ((bif (decide (y22.1 < 0)) then
  some (.go true)
  else (F_laws_eqNodeS y10.1 y6.1).bind (fun y23 => (bif (!y23) then
  some (.go true)
  else (F_laws_eqStepS y10.2 y6.2).bind (fun y24 => some (.go (!y24)))))))
  (fun s => J_laws_FnExactImprovex1 a0 a1 a2 y6 y10 s))))))))))))))
theorem U_laws_FnExactImprove (a0 : List STable) (a1 : List Int) (a2 : List SNode) : Le ((bif (decide ((a1.length : Int) > 1048576)) then
  some true
  else (F_laws_szTableS a0 1048576).bind (fun y1 => (bif (decide (y1 < 0)) then
  some true
  else (F_laws_szNodeS a2 y1).bind (fun y2 => (bif (decide (y2 < 0)) then
  some true
  else (F_laws_toTableS a0).bind (fun y3 => (F_laws_toIntS a1).bind (fun y4 => (F_laws_toNodeS a2).bind (fun y5 => (F_spec_Improve y3 y4 y5).bind (fun y6 => (F_laws_toTableS a0).bind (fun y7 => (F_laws_toIntS a1).bind (fun y8 => (F_laws_toNodeS a2).bind (fun y9 => (F_impl_Improve y7 y8 y9).bind (fun y10 => joinK ((F_laws_eqNodeS y10.1 y6.1).bind (fun y11 => (bif (!y11) then
  some (.go true)
  else (F_laws_eqStepS y10.2 y6.2).bind (fun y12 => some (.go (!y12))))))
  (fun s => J_laws_FnExactImprovex0 a0 a1 a2 y6 y7 y8 y9 y10 s))))))))))))))) (F_laws_FnExactImprove a0 a1 a2) := callL_le (tt := tt) (FT := FT) (SP := SP) (j := 0) rfl (by kernel_rfl)
noncomputable def L_laws_szTableSx0 (a0 : List STable) (f0 : (Int × Int × Int) → Option (Ex Int (Int × Int))) (v1 : Int) (v2 : Int) (v3 : Int) : Option (Ex Int (Int × Int)) :=
  (bif (decide (v3 < (a0.length : Int))) then
  (ix a0 v3).bind (fun z4 => (F_laws_szTable z4 v1).bind (fun y5 => (bif (decide (y5 < 0)) then
  some (.ret (-1))
  else f0 (y5, v2, (IntKind.i64.wrap (v3 + 1))))))
  else some (.go (v1, v2)))
@[simp] noncomputable def J_laws_szTableSx0 (v6 : Int) (v7 : Int) : Option Int :=
  some v6
theorem U_laws_szTableS (a0 : List STable) (a1 : Int) : Le ((bif (decide ((IntKind.i64.wrap (a1 - (a0.length : Int))) < 0)) then
  some (-1)
  else joinK (loopF (fun f s => L_laws_szTableSx0 a0 f s.1 s.2.1 s.2.2) ((IntKind.i64.wrap (a1 - (a0.length : Int))), 0, 0))
  (fun s => J_laws_szTableSx0 s.1 s.2))) (F_laws_szTableS a0 a1) := callL_le (tt := tt) (FT := FT) (SP := SP) (j := 1) rfl (by kernel_rfl)
theorem U_laws_szTable (a0 : STable) (a1 : Int) : Le ((bif (decide ((IntKind.i64.wrap (a1 - (a0.1.size : Int))) < 0)) then
  some (-1)
  else some (IntKind.i64.wrap (a1 - (a0.1.size : Int))))) (F_laws_szTable a0 a1) := callL_le (tt := tt) (FT := FT) (SP := SP) (j := 2) rfl (by kernel_rfl)
noncomputable def L_laws_szNodeSx0 (a0 : List SNode) (f0 : (Int × Int × Int) → Option (Ex Int (Int × Int))) (v1 : Int) (v2 : Int) (v3 : Int) : Option (Ex Int (Int × Int)) :=
  (bif (decide (v3 < (a0.length : Int))) then
  (ix a0 v3).bind (fun z4 => (F_laws_szNode z4 v1).bind (fun y5 => (bif (decide (y5 < 0)) then
  some (.ret (-1))
  else f0 (y5, v2, (IntKind.i64.wrap (v3 + 1))))))
  else some (.go (v1, v2)))
@[simp] noncomputable def J_laws_szNodeSx0 (v6 : Int) (v7 : Int) : Option Int :=
  some v6
theorem U_laws_szNodeS (a0 : List SNode) (a1 : Int) : Le ((bif (decide ((IntKind.i64.wrap (a1 - (a0.length : Int))) < 0)) then
  some (-1)
  else joinK (loopF (fun f s => L_laws_szNodeSx0 a0 f s.1 s.2.1 s.2.2) ((IntKind.i64.wrap (a1 - (a0.length : Int))), 0, 0))
  (fun s => J_laws_szNodeSx0 s.1 s.2))) (F_laws_szNodeS a0 a1) := callL_le (tt := tt) (FT := FT) (SP := SP) (j := 3) rfl (by kernel_rfl)
theorem U_laws_szNode (a0 : SNode) (a1 : Int) : Le ((bif (decide ((IntKind.i64.wrap (a1 - (a0.2.1.size : Int))) < 0)) then
  some (-1)
  else (F_laws_szIntS a0.2.2.2.2.2.2.1 (IntKind.i64.wrap (a1 - (a0.2.1.size : Int)))).bind (fun y1 => (bif (decide (y1 < 0)) then
  some (-1)
  else some y1)))) (F_laws_szNode a0 a1) := callL_le (tt := tt) (FT := FT) (SP := SP) (j := 4) rfl (by kernel_rfl)
theorem U_laws_szIntS (a0 : List Int) (a1 : Int) : Le ((bif (decide ((IntKind.i64.wrap (a1 - (a0.length : Int))) < 0)) then
  some (-1)
  else some (IntKind.i64.wrap (a1 - (a0.length : Int))))) (F_laws_szIntS a0 a1) := callL_le (tt := tt) (FT := FT) (SP := SP) (j := 5) rfl (by kernel_rfl)
noncomputable def L_laws_toTableSx0 (a0 : List STable) (f0 : ((List STable) × Int) → Option (Ex (List STable) (List STable))) (v2 : List STable) (v3 : Int) : Option (Ex (List STable) (List STable)) :=
  (bif (decide (v3 < (a0.length : Int))) then
  (ix a0 v3).bind (fun z4 => (F_laws_toTable z4).bind (fun y5 => (ix v2 v3).bind (fun z6 => (stx v2 v3 y5).bind (fun z7 => f0 (z7, (IntKind.i64.wrap (v3 + 1)))))))
  else some (.go v2))
@[simp] noncomputable def J_laws_toTableSx0 (v8 : List STable) : Option (List STable) :=
  some v8
theorem U_laws_toTableS (a0 : List STable) : Le ((mkx (a0.length : Int) ((ByteArray.empty, (0, ())) : STable)).bind (fun z1 => joinK (loopF (fun f s => L_laws_toTableSx0 a0 f s.1 s.2) (z1, 0))
  (fun s => J_laws_toTableSx0 s))) (F_laws_toTableS a0) := callL_le (tt := tt) (FT := FT) (SP := SP) (j := 6) rfl (by kernel_rfl)
theorem U_laws_toTable (a0 : STable) : Le (some (a0.1, (a0.2.1, ()))) (F_laws_toTable a0) := callL_le (tt := tt) (FT := FT) (SP := SP) (j := 7) rfl (by kernel_rfl)
noncomputable def L_laws_toIntSx0 (a0 : List Int) (f0 : ((List Int) × Int) → Option (Ex (List Int) (List Int))) (v2 : List Int) (v3 : Int) : Option (Ex (List Int) (List Int)) :=
  (bif (decide (v3 < (a0.length : Int))) then
  (ix a0 v3).bind (fun z4 => (ix v2 v3).bind (fun z5 => (stx v2 v3 z4).bind (fun z6 => f0 (z6, (IntKind.i64.wrap (v3 + 1))))))
  else some (.go v2))
@[simp] noncomputable def J_laws_toIntSx0 (v7 : List Int) : Option (List Int) :=
  some v7
theorem U_laws_toIntS (a0 : List Int) : Le ((mkx (a0.length : Int) (0 : Int)).bind (fun z1 => joinK (loopF (fun f s => L_laws_toIntSx0 a0 f s.1 s.2) (z1, 0))
  (fun s => J_laws_toIntSx0 s))) (F_laws_toIntS a0) := callL_le (tt := tt) (FT := FT) (SP := SP) (j := 8) rfl (by kernel_rfl)
noncomputable def L_laws_toNodeSx0 (a0 : List SNode) (f0 : ((List SNode) × Int) → Option (Ex (List SNode) (List SNode))) (v2 : List SNode) (v3 : Int) : Option (Ex (List SNode) (List SNode)) :=
  (bif (decide (v3 < (a0.length : Int))) then
  (ix a0 v3).bind (fun z4 => (F_laws_toNode z4).bind (fun y5 => (ix v2 v3).bind (fun z6 => (stx v2 v3 y5).bind (fun z7 => f0 (z7, (IntKind.i64.wrap (v3 + 1)))))))
  else some (.go v2))
@[simp] noncomputable def J_laws_toNodeSx0 (v8 : List SNode) : Option (List SNode) :=
  some v8
theorem U_laws_toNodeS (a0 : List SNode) : Le ((mkx (a0.length : Int) ((0, (ByteArray.empty, (0, (0, (0, (false, ([], ()))))))) : SNode)).bind (fun z1 => joinK (loopF (fun f s => L_laws_toNodeSx0 a0 f s.1 s.2) (z1, 0))
  (fun s => J_laws_toNodeSx0 s))) (F_laws_toNodeS a0) := callL_le (tt := tt) (FT := FT) (SP := SP) (j := 9) rfl (by kernel_rfl)
theorem U_laws_toNode (a0 : SNode) : Le ((F_laws_toIntS a0.2.2.2.2.2.2.1).bind (fun y1 => some (a0.1, (a0.2.1, (a0.2.2.1, (a0.2.2.2.1, (a0.2.2.2.2.1, (a0.2.2.2.2.2.1, (y1, ()))))))))) (F_laws_toNode a0) := callL_le (tt := tt) (FT := FT) (SP := SP) (j := 10) rfl (by kernel_rfl)
noncomputable def L_spec_Improvex0 (a0 : List STable) (a1 : List Int) (f0 : ((List SNode) × (List SStep) × (List SNode) × (List SStep)) → Option (Ex ((List SNode) × (List SStep)) ((List SNode) × (List SStep) × (List SNode) × (List SStep)))) (v3 : List SNode) (v4 : List SStep) (v5 : List SNode) (v6 : List SStep) : Option (Ex ((List SNode) × (List SStep)) ((List SNode) × (List SStep) × (List SNode) × (List SStep))) :=
  (bif (decide ((v6.length : Int) < 20)) then
  (F_spec_BestStep a0 a1 v5).bind (fun y7 => (bif (!y7.2) then
  some (.ret (v5, v6))
  else (F_spec_ApplyStep a0 v5 (y7.1.1, (y7.1.2.1, ()))).bind (fun y8 => (apx v6 ([(y7.1.1, (y7.1.2.1, ()))])).bind (fun z9 => f0 (v3, v4, y8.1, z9)))))
  else some (.go (v3, v4, v5, v6)))
@[simp] noncomputable def J_spec_Improvex0 (v10 : List SNode) (v11 : List SStep) (v12 : List SNode) (v13 : List SStep) : Option ((List SNode) × (List SStep)) :=
  some (v12, v13)
theorem U_spec_Improve (a0 : List STable) (a1 : List Int) (a2 : List SNode) : Le ((F_spec_l02Copy a2).bind (fun y1 => (F_spec_CostOf a0 a1 a2).bind (fun y2 => (bif (decide (y2 < 0)) then
  some (y1, [])
  else joinK (loopF (fun f s => L_spec_Improvex0 a0 a1 f s.1 s.2.1 s.2.2.1 s.2.2.2) ([], [], y1, []))
  (fun s => J_spec_Improvex0 s.1 s.2.1 s.2.2.1 s.2.2.2))))) (F_spec_Improve a0 a1 a2) := callL_le (tt := tt) (FT := FT) (SP := SP) (j := 11) rfl (by kernel_rfl)
@[simp] noncomputable def J_spec_l02Copyx1 (v1 : List SNode) (v2 : Int) (f0 : ((List SNode) × Int) → Option (Ex (List SNode) (List SNode))) (v7 : Int) (v8 : ByteArray) (v9 : Int) (v10 : Int) (v11 : Int) (v12 : Bool) (v13 : List Int) : Option (Ex (List SNode) (List SNode)) :=
  (apx v1 ([(v7, (v8, (v9, (v10, (v11, (v12, (v13, ())))))))])).bind (fun z14 => f0 (z14, (IntKind.i64.wrap (v2 + 1))))
noncomputable def L_spec_l02Copyx0 (a0 : List SNode) (f0 : ((List SNode) × Int) → Option (Ex (List SNode) (List SNode))) (v1 : List SNode) (v2 : Int) : Option (Ex (List SNode) (List SNode)) :=
  (bif (decide (v2 < (a0.length : Int))) then
  (ix a0 v2).bind (fun z3 => joinK ((ix a0 v2).bind (fun z4 => (bif (decide ((z4.2.2.2.2.2.2.1.length : Int) > 0)) then
  (ix a0 v2).bind (fun z5 => (F_spec_l01Copy z5.2.2.2.2.2.2.1).bind (fun y6 => some (.go (z3.1, z3.2.1, z3.2.2.1, z3.2.2.2.1, z3.2.2.2.2.1, z3.2.2.2.2.2.1, y6))))
  else some (.go (z3.1, z3.2.1, z3.2.2.1, z3.2.2.2.1, z3.2.2.2.2.1, z3.2.2.2.2.2.1, [])))))
  (fun s => J_spec_l02Copyx1 v1 v2 f0 s.1 s.2.1 s.2.2.1 s.2.2.2.1 s.2.2.2.2.1 s.2.2.2.2.2.1 s.2.2.2.2.2.2))
  else some (.go v1))
@[simp] noncomputable def J_spec_l02Copyx0 (v15 : List SNode) : Option (List SNode) :=
  some v15
theorem U_spec_l02Copy (a0 : List SNode) : Le (joinK (loopF (fun f s => L_spec_l02Copyx0 a0 f s.1 s.2) ([], 0))
  (fun s => J_spec_l02Copyx0 s)) (F_spec_l02Copy a0) := callL_le (tt := tt) (FT := FT) (SP := SP) (j := 12) rfl (by kernel_rfl)
noncomputable def L_spec_l01Copyx0 (a0 : List Int) (f0 : ((List Int) × Int) → Option (Ex (List Int) (List Int))) (v1 : List Int) (v2 : Int) : Option (Ex (List Int) (List Int)) :=
  (bif (decide (v2 < (a0.length : Int))) then
  (ix a0 v2).bind (fun z3 => (apx v1 ([z3])).bind (fun z4 => f0 (z4, (IntKind.i64.wrap (v2 + 1)))))
  else some (.go v1))
@[simp] noncomputable def J_spec_l01Copyx0 (v5 : List Int) : Option (List Int) :=
  some v5
theorem U_spec_l01Copy (a0 : List Int) : Le (joinK (loopF (fun f s => L_spec_l01Copyx0 a0 f s.1 s.2) ([], 0))
  (fun s => J_spec_l01Copyx0 s)) (F_spec_l01Copy a0) := callL_le (tt := tt) (FT := FT) (SP := SP) (j := 13) rfl (by kernel_rfl)
noncomputable def L_spec_CostOfx0 (a0 : List STable) (a1 : List Int) (a2 : List SNode) (f0 : (Int × Int) → Option (Ex Int Int)) (v2 : Int) (v3 : Int) : Option (Ex Int Int) :=
  (bif (decide (v3 < (a2.length : Int))) then
  (F_spec_l12Guess a0 a1 a2 v3).bind (fun y4 => (F_spec_l12Cut (IntKind.i64.wrap (v2 + y4))).bind (fun y5 => f0 (y5, (IntKind.i64.wrap (v3 + 1)))))
  else some (.go v2))
@[simp] noncomputable def J_spec_CostOfx0 (v6 : Int) : Option Int :=
  some v6
theorem U_spec_CostOf (a0 : List STable) (a1 : List Int) (a2 : List SNode) : Le ((F_spec_l12Good a0 a1 a2).bind (fun y1 => (bif (!y1) then
  some (-1)
  else joinK (loopF (fun f s => L_spec_CostOfx0 a0 a1 a2 f s.1 s.2) (0, 0))
  (fun s => J_spec_CostOfx0 s)))) (F_spec_CostOf a0 a1 a2) := callL_le (tt := tt) (FT := FT) (SP := SP) (j := 14) rfl (by kernel_rfl)
noncomputable def L_spec_l12Goodx0 (a1 : List Int) (f0 : (Bool × Int) → Option (Ex Bool Bool)) (v3 : Bool) (v4 : Int) : Option (Ex Bool Bool) :=
  (bif (decide (v4 < (a1.length : Int))) then
  (ix a1 v4).bind (fun z5 => (F_spec_l01In z5 0 1000).bind (fun y6 => (bif (!y6) then
  some (.ret false)
  else f0 (v3, (IntKind.i64.wrap (v4 + 1))))))
  else some (.go v3))
@[simp] noncomputable def J_spec_l12Goodx1 (v7 : Bool) : Option Bool :=
  some true
@[simp] noncomputable def J_spec_l12Goodx0 (a1 : List Int) (v2 : Bool) : Option Bool :=
  (bif v2 then
  some false
  else joinK (loopF (fun f s => L_spec_l12Goodx0 a1 f s.1 s.2) (false, 0))
  (fun s => J_spec_l12Goodx1 s))
theorem U_spec_l12Good (a0 : List STable) (a1 : List Int) (a2 : List SNode) : Le (joinK ((F_spec_TypedOk a0 a2).bind (fun y1 => (bif (!y1) then
  some (.go true)
  else some (.go ((a1.length : Int) != (a0.length : Int))))))
  (fun s => J_spec_l12Goodx0 a1 s)) (F_spec_l12Good a0 a1 a2) := callL_le (tt := tt) (FT := FT) (SP := SP) (j := 15) rfl (by kernel_rfl)
theorem U_spec_TypedOk (a0 : List STable) (a1 : List SNode) : Le ((F_spec_WidthOf a0 a1).bind (fun y1 => some (y1 != (-1)))) (F_spec_TypedOk a0 a1) := callL_le (tt := tt) (FT := FT) (SP := SP) (j := 16) rfl (by kernel_rfl)
@[simp] noncomputable def J_spec_WidthOfx0 (a0 : List STable) (a1 : List SNode) (v3 : Bool) : Option Int :=
  (bif v3 then
  some (-1)
  else (F_spec_l03Width a0 a1 0).bind (fun y4 => some y4))
theorem U_spec_WidthOf (a0 : List STable) (a1 : List SNode) : Le (joinK ((F_spec_SchemaOk a0).bind (fun y1 => (bif (!y1) then
  some (.go true)
  else (F_spec_PlanOk a1).bind (fun y2 => some (.go (!y2))))))
  (fun s => J_spec_WidthOfx0 a0 a1 s)) (F_spec_WidthOf a0 a1) := callL_le (tt := tt) (FT := FT) (SP := SP) (j := 17) rfl (by kernel_rfl)
@[simp] noncomputable def J_spec_SchemaOkx1 (v1 : Bool) (v2 : Int) (f0 : (Bool × Int) → Option (Ex Bool Bool)) (v10 : Bool) : Option (Ex Bool Bool) :=
  (bif v10 then
  some (.ret false)
  else f0 (v1, (IntKind.i64.wrap (v2 + 1))))
noncomputable def L_spec_SchemaOkx0 (a0 : List STable) (f0 : (Bool × Int) → Option (Ex Bool Bool)) (v1 : Bool) (v2 : Int) : Option (Ex Bool Bool) :=
  (bif (decide (v2 < (a0.length : Int))) then
  joinK ((ix a0 v2).bind (fun z3 => (F_spec_WordOk z3.1).bind (fun y4 => (bif (!y4) then
  some (.go true)
  else (ix a0 v2).bind (fun z5 => (F_spec_l01In z5.2.1 1 6).bind (fun y6 => (bif (!y6) then
  some (.go true)
  else (bif (decide (v2 > 0)) then
  (ix a0 (IntKind.i64.wrap (v2 - 1))).bind (fun z7 => (ix a0 v2).bind (fun z8 => (F_spec_l01Less z7.1 z8.1).bind (fun y9 => some (.go (!y9)))))
  else some (.go false)))))))))
  (fun s => J_spec_SchemaOkx1 v1 v2 f0 s)
  else some (.go v1))
@[simp] noncomputable def J_spec_SchemaOkx0 (v11 : Bool) : Option Bool :=
  some true
theorem U_spec_SchemaOk (a0 : List STable) : Le ((bif (decide ((a0.length : Int) > 8)) then
  some false
  else joinK (loopF (fun f s => L_spec_SchemaOkx0 a0 f s.1 s.2) (false, 0))
  (fun s => J_spec_SchemaOkx0 s))) (F_spec_SchemaOk a0) := callL_le (tt := tt) (FT := FT) (SP := SP) (j := 18) rfl (by kernel_rfl)
@[simp] noncomputable def J_spec_WordOkx2 (v4 : Bool) (v5 : Int) (f0 : (Bool × Int) → Option (Ex Bool Bool)) (v12 : Bool) : Option (Ex Bool Bool) :=
  (bif v12 then
  some (.ret false)
  else f0 (v4, (IntKind.i64.wrap (v5 + 1))))
noncomputable def L_spec_WordOkx0 (a0 : ByteArray) (f0 : (Bool × Int) → Option (Ex Bool Bool)) (v4 : Bool) (v5 : Int) : Option (Ex Bool Bool) :=
  (bif (decide (v5 < (a0.size : Int))) then
  joinK ((bix a0 v5).bind (fun z6 => (bif (decide (z6 < 97)) then
  (bix a0 v5).bind (fun z7 => (bif (decide (z7 < 48)) then
  some (.go true)
  else (bix a0 v5).bind (fun z8 => some (.go (decide (z8 > 57))))))
  else (bix a0 v5).bind (fun z9 => (bif (decide (z9 > 122)) then
  (bix a0 v5).bind (fun z10 => (bif (decide (z10 < 48)) then
  some (.go true)
  else (bix a0 v5).bind (fun z11 => some (.go (decide (z11 > 57))))))
  else some (.go false))))))
  (fun s => J_spec_WordOkx2 v4 v5 f0 s)
  else some (.go v4))
@[simp] noncomputable def J_spec_WordOkx1 (v13 : Bool) : Option Bool :=
  some true
@[simp] noncomputable def J_spec_WordOkx0 (a0 : ByteArray) (v3 : Bool) : Option Bool :=
  (bif v3 then
  some false
  else joinK (loopF (fun f s => L_spec_WordOkx0 a0 f s.1 s.2) (false, 0))
  (fun s => J_spec_WordOkx1 s))
theorem U_spec_WordOk (a0 : ByteArray) : Le (joinK ((F_spec_l01In (a0.size : Int) 1 12).bind (fun y1 => (bif (!y1) then
  some (.go true)
  else (bix a0 0).bind (fun z2 => some (.go (decide (z2 < 97)))))))
  (fun s => J_spec_WordOkx0 a0 s)) (F_spec_WordOk a0) := callL_le (tt := tt) (FT := FT) (SP := SP) (j := 19) rfl (by kernel_rfl)
@[simp] noncomputable def J_spec_l01Inx0 (v1 : Bool) : Option Bool :=
  some v1
theorem U_spec_l01In (a0 : Int) (a1 : Int) (a2 : Int) : Le (joinK ((bif (decide (a1 ≤ a0)) then
  some (.go (decide (a0 ≤ a2)))
  else some (.go false)))
  (fun s => J_spec_l01Inx0 s)) (F_spec_l01In a0 a1 a2) := callL_le (tt := tt) (FT := FT) (SP := SP) (j := 20) rfl (by kernel_rfl)
@[simp] noncomputable def J_spec_l01Lessx1 (a0 : ByteArray) (a1 : ByteArray) (v1 : Bool) (v2 : Int) (f0 : (Bool × Int) → Option (Ex Bool Bool)) (v3 : Bool) : Option (Ex Bool Bool) :=
  (bif v3 then
  (bix a0 v2).bind (fun z4 => (bix a1 v2).bind (fun z5 => (bif (z4 != z5) then
  (bix a0 v2).bind (fun z6 => (bix a1 v2).bind (fun z7 => some (.ret (decide (z6 < z7)))))
  else f0 (v1, (IntKind.i64.wrap (v2 + 1))))))
  else some (.go v1))
noncomputable def L_spec_l01Lessx0 (a0 : ByteArray) (a1 : ByteArray) (f0 : (Bool × Int) → Option (Ex Bool Bool)) (v1 : Bool) (v2 : Int) : Option (Ex Bool Bool) :=
  joinK ((bif (decide (v2 < (a0.size : Int))) then
  some (.go (decide (v2 < (a1.size : Int))))
  else some (.go false)))
  (fun s => J_spec_l01Lessx1 a0 a1 v1 v2 f0 s)
@[simp] noncomputable def J_spec_l01Lessx0 (a0 : ByteArray) (a1 : ByteArray) (v8 : Bool) : Option Bool :=
  some (decide ((a0.size : Int) < (a1.size : Int)))
theorem U_spec_l01Less (a0 : ByteArray) (a1 : ByteArray) : Le (joinK (loopF (fun f s => L_spec_l01Lessx0 a0 a1 f s.1 s.2) (false, 0))
  (fun s => J_spec_l01Lessx0 a0 a1 s)) (F_spec_l01Less a0 a1) := callL_le (tt := tt) (FT := FT) (SP := SP) (j := 21) rfl (by kernel_rfl)
noncomputable def L_spec_PlanOkx0 (a0 : List SNode) (f0 : (Bool × Int) → Option (Ex Bool Bool)) (v2 : Bool) (v3 : Int) : Option (Ex Bool Bool) :=
  (bif (decide (v3 < (a0.length : Int))) then
  (ix a0 v3).bind (fun z4 => (F_spec_NodeOk z4).bind (fun y5 => (bif (!y5) then
  some (.ret false)
  else f0 (v2, (IntKind.i64.wrap (v3 + 1))))))
  else some (.go v2))
@[simp] noncomputable def J_spec_PlanOkx0 (a0 : List SNode) (v6 : Bool) : Option Bool :=
  (F_spec_l02End a0 0 10).bind (fun y7 => some (y7.1 == (a0.length : Int)))
theorem U_spec_PlanOk (a0 : List SNode) : Le ((F_spec_l01In (a0.length : Int) 1 40).bind (fun y1 => (bif (!y1) then
  some false
  else joinK (loopF (fun f s => L_spec_PlanOkx0 a0 f s.1 s.2) (false, 0))
  (fun s => J_spec_PlanOkx0 a0 s)))) (F_spec_PlanOk a0) := callL_le (tt := tt) (FT := FT) (SP := SP) (j := 22) rfl (by kernel_rfl)
@[simp] noncomputable def J_spec_NodeOkx2 (v11 : Bool) : Option (Ex Bool Bool) :=
  some (.ret v11)
@[simp] noncomputable def J_spec_NodeOkx3 (v15 : Bool) : Option (Ex Bool Bool) :=
  some (.ret v15)
noncomputable def L_spec_NodeOkx0 (a0 : SNode) (f0 : (Bool × Int) → Option (Ex (Ex Bool Bool) Bool)) (v16 : Bool) (v17 : Int) : Option (Ex (Ex Bool Bool) Bool) :=
  (bif (decide (v17 < (a0.2.2.2.2.2.2.1.length : Int))) then
  (ix a0.2.2.2.2.2.2.1 v17).bind (fun z18 => (F_spec_l02Col z18).bind (fun y19 => (bif (!y19) then
  some (.ret (.ret false))
  else f0 (v16, (IntKind.i64.wrap (v17 + 1))))))
  else some (.go v16))
@[simp] noncomputable def J_spec_NodeOkx5 (v22 : Bool) : Option (Ex Bool Bool) :=
  some (.ret v22)
@[simp] noncomputable def J_spec_NodeOkx4 (a0 : SNode) (v20 : Bool) : Option (Ex Bool Bool) :=
  joinK ((F_spec_l01In (a0.2.2.2.2.2.2.1.length : Int) 1 6).bind (fun y21 => (bif y21 then
  (bif (a0.2.2.1 == 0) then
  (bif (a0.2.2.2.2.1 == 0) then
  some (.go (!a0.2.2.2.2.2.1))
  else some (.go false))
  else some (.go false))
  else some (.go false))))
  (fun s => J_spec_NodeOkx5 s)
@[simp] noncomputable def J_spec_NodeOkx6 (v25 : Bool) : Option (Ex Bool Bool) :=
  some (.ret v25)
@[simp] noncomputable def J_spec_NodeOkx7 (v27 : Bool) : Option (Ex Bool Bool) :=
  some (.ret v27)
@[simp] noncomputable def J_spec_NodeOkx8 (v29 : Bool) : Option (Ex Bool Bool) :=
  some (.ret v29)
@[simp] noncomputable def J_spec_NodeOkx10 (v31 : Bool) : Option (Ex Bool Bool) :=
  some (.ret v31)
@[simp] noncomputable def J_spec_NodeOkx9 (a0 : SNode) (v30 : Bool) : Option (Ex Bool Bool) :=
  (bif v30 then
  joinK ((bif (a0.2.2.1 == 0) then
  (bif (a0.2.2.2.2.1 == 0) then
  some (.go (!a0.2.2.2.2.2.1))
  else some (.go false))
  else some (.go false)))
  (fun s => J_spec_NodeOkx10 s)
  else some (.go false))
@[simp] noncomputable def J_spec_NodeOkx1 (v32 : Bool) : Option Bool :=
  some false
@[simp] noncomputable def J_spec_NodeOkx0 (a0 : SNode) (v9 : Bool) : Option Bool :=
  (bif v9 then
  some false
  else joinK ((bif (a0.1 == 0) then
  joinK ((F_spec_WordOk a0.2.1).bind (fun y10 => (bif y10 then
  (bif (a0.2.2.1 == 0) then
  (bif (a0.2.2.2.2.1 == 0) then
  some (.go (!a0.2.2.2.2.2.1))
  else some (.go false))
  else some (.go false))
  else some (.go false))))
  (fun s => J_spec_NodeOkx2 s)
  else (bif (a0.1 == 1) then
  joinK ((F_spec_l02Col a0.2.2.1).bind (fun y12 => (bif y12 then
  (F_spec_l01In a0.2.2.2.1 0 3).bind (fun y13 => (bif y13 then
  (F_spec_l01Number a0.2.2.2.2.1).bind (fun y14 => (bif y14 then
  (bif (a0.2.2.2.1 != 3) then
  some (.go true)
  else (bif (a0.2.2.2.2.1 == 0) then
  some (.go (!a0.2.2.2.2.2.1))
  else some (.go false)))
  else some (.go false)))
  else some (.go false)))
  else some (.go false))))
  (fun s => J_spec_NodeOkx3 s)
  else (bif (a0.1 == 2) then
  joinK (loopF (fun f s => L_spec_NodeOkx0 a0 f s.1 s.2) (false, 0))
  (fun s => J_spec_NodeOkx4 a0 s)
  else (bif (a0.1 == 3) then
  joinK ((F_spec_l02Col a0.2.2.1).bind (fun y23 => (bif y23 then
  (F_spec_l02Col a0.2.2.2.2.1).bind (fun y24 => (bif y24 then
  some (.go (!a0.2.2.2.2.2.1))
  else some (.go false)))
  else some (.go false))))
  (fun s => J_spec_NodeOkx6 s)
  else (bif (a0.1 == 5) then
  joinK ((F_spec_l02Col a0.2.2.1).bind (fun y26 => (bif y26 then
  (bif (a0.2.2.2.2.1 == 0) then
  some (.go (!a0.2.2.2.2.2.1))
  else some (.go false))
  else some (.go false))))
  (fun s => J_spec_NodeOkx7 s)
  else (bif (a0.1 == 6) then
  joinK ((bif (a0.2.2.1 == 0) then
  (F_spec_l01In a0.2.2.2.2.1 0 1000000).bind (fun y28 => some (.go y28))
  else some (.go false)))
  (fun s => J_spec_NodeOkx8 s)
  else joinK ((bif (a0.1 == 4) then
  some (.go true)
  else some (.go (a0.1 == 7))))
  (fun s => J_spec_NodeOkx9 a0 s))))))))
  (fun s => J_spec_NodeOkx1 s))
theorem U_spec_NodeOk (a0 : SNode) : Le (joinK ((bif (a0.1 != 0) then
  (bif (!(a0.2.1.toList == ByteArray.empty.toList)) then
  some (.go true)
  else (bif (a0.1 != 2) then
  (bif (decide ((a0.2.2.2.2.2.2.1.length : Int) > 0)) then
  some (.go true)
  else (bif (a0.1 != 1) then
  (bif (a0.2.2.2.1 != 0) then
  some (.go true)
  else (bif a0.2.2.2.2.2.1 then
  (F_spec_l01In a0.2.2.2.2.1 0 39).bind (fun y1 => some (.go (!y1)))
  else some (.go false)))
  else (bif a0.2.2.2.2.2.1 then
  (F_spec_l01In a0.2.2.2.2.1 0 39).bind (fun y2 => some (.go (!y2)))
  else some (.go false))))
  else (bif (a0.1 != 1) then
  (bif (a0.2.2.2.1 != 0) then
  some (.go true)
  else (bif a0.2.2.2.2.2.1 then
  (F_spec_l01In a0.2.2.2.2.1 0 39).bind (fun y3 => some (.go (!y3)))
  else some (.go false)))
  else (bif a0.2.2.2.2.2.1 then
  (F_spec_l01In a0.2.2.2.2.1 0 39).bind (fun y4 => some (.go (!y4)))
  else some (.go false)))))
  else (bif (a0.1 != 2) then
  (bif (decide ((a0.2.2.2.2.2.2.1.length : Int) > 0)) then
  some (.go true)
  else (bif (a0.1 != 1) then
  (bif (a0.2.2.2.1 != 0) then
  some (.go true)
  else (bif a0.2.2.2.2.2.1 then
  (F_spec_l01In a0.2.2.2.2.1 0 39).bind (fun y5 => some (.go (!y5)))
  else some (.go false)))
  else (bif a0.2.2.2.2.2.1 then
  (F_spec_l01In a0.2.2.2.2.1 0 39).bind (fun y6 => some (.go (!y6)))
  else some (.go false))))
  else (bif (a0.1 != 1) then
  (bif (a0.2.2.2.1 != 0) then
  some (.go true)
  else (bif a0.2.2.2.2.2.1 then
  (F_spec_l01In a0.2.2.2.2.1 0 39).bind (fun y7 => some (.go (!y7)))
  else some (.go false)))
  else (bif a0.2.2.2.2.2.1 then
  (F_spec_l01In a0.2.2.2.2.1 0 39).bind (fun y8 => some (.go (!y8)))
  else some (.go false))))))
  (fun s => J_spec_NodeOkx0 a0 s)) (F_spec_NodeOk a0) := callL_le (tt := tt) (FT := FT) (SP := SP) (j := 23) rfl (by kernel_rfl)
theorem U_spec_l02Col (a0 : Int) : Le ((F_spec_l01In a0 0 63).bind (fun y1 => some y1)) (F_spec_l02Col a0) := callL_le (tt := tt) (FT := FT) (SP := SP) (j := 24) rfl (by kernel_rfl)
theorem U_spec_l01Number (a0 : Int) : Le ((F_spec_l01In a0 (-1000000) 1000000).bind (fun y1 => some y1)) (F_spec_l01Number a0) := callL_le (tt := tt) (FT := FT) (SP := SP) (j := 25) rfl (by kernel_rfl)
@[simp] noncomputable def J_spec_l02Endx2 (v6 : Int) (f0 : (Int × Int × Int × Int × Int) → Option (Ex (Int × Int) (Int × Int × Int × Int))) (v10 : Int) (v11 : Int) (v12 : Int) (v13 : Int) : Option (Ex (Int × Int) (Int × Int × Int × Int)) :=
  f0 (v10, v11, v12, v13, (IntKind.i64.wrap (v6 + 1)))
noncomputable def L_spec_l02Endx0 (a0 : List SNode) (a1 : Int) (a2 : Int) (f0 : (Int × Int × Int × Int × Int) → Option (Ex (Int × Int) (Int × Int × Int × Int))) (v2 : Int) (v3 : Int) (v4 : Int) (v5 : Int) (v6 : Int) : Option (Ex (Int × Int) (Int × Int × Int × Int)) :=
  (ix a0 a1).bind (fun z7 => (F_spec_ArityOf z7.1).bind (fun y8 => (bif (decide (v6 < y8)) then
  joinK ((F_spec_l02End a0 v4 (IntKind.i64.wrap (a2 - 1))).bind (fun y9 => (bif (decide (y9.1 < 0)) then
  some (.ret (.ret ((-1), 0)))
  else (bif (decide (y9.2 > v5)) then
  some (.go (v2, v3, y9.1, y9.2))
  else some (.go (v2, v3, y9.1, v5))))))
  (fun s => J_spec_l02Endx2 v6 f0 s.1 s.2.1 s.2.2.1 s.2.2.2)
  else some (.go (v2, v3, v4, v5)))))
@[simp] noncomputable def J_spec_l02Endx1 (v14 : Int) (v15 : Int) (v16 : Int) (v17 : Int) : Option (Int × Int) :=
  some (v16, (IntKind.i64.wrap (v17 + 1)))
@[simp] noncomputable def J_spec_l02Endx0 (a0 : List SNode) (a1 : Int) (a2 : Int) (v1 : Bool) : Option (Int × Int) :=
  (bif v1 then
  some ((-1), 0)
  else joinK (loopF (fun f s => L_spec_l02Endx0 a0 a1 a2 f s.1 s.2.1 s.2.2.1 s.2.2.2.1 s.2.2.2.2) (0, 0, (IntKind.i64.wrap (a1 + 1)), 0, 0))
  (fun s => J_spec_l02Endx1 s.1 s.2.1 s.2.2.1 s.2.2.2))
theorem U_spec_l02End (a0 : List SNode) (a1 : Int) (a2 : Int) : Le (joinK ((bif (decide (a1 ≥ (a0.length : Int))) then
  some (.go true)
  else some (.go (a2 == 0))))
  (fun s => J_spec_l02Endx0 a0 a1 a2 s)) (F_spec_l02End a0 a1 a2) := callL_le (tt := tt) (FT := FT) (SP := SP) (j := 26) rfl (by kernel_rfl)
@[simp] noncomputable def J_spec_ArityOfx1 (v2 : Bool) : Option Int :=
  (bif v2 then
  some 1
  else some (-1))
@[simp] noncomputable def J_spec_ArityOfx0 (a0 : Int) (v1 : Bool) : Option Int :=
  (bif v1 then
  some 2
  else joinK ((bif (a0 == 1) then
  some (.go true)
  else (bif (a0 == 2) then
  some (.go true)
  else (bif (a0 == 5) then
  some (.go true)
  else (bif (a0 == 6) then
  some (.go true)
  else some (.go (a0 == 7)))))))
  (fun s => J_spec_ArityOfx1 s))
theorem U_spec_ArityOf (a0 : Int) : Le ((bif (a0 == 0) then
  some 0
  else joinK ((bif (a0 == 3) then
  some (.go true)
  else some (.go (a0 == 4))))
  (fun s => J_spec_ArityOfx0 a0 s))) (F_spec_ArityOf a0) := callL_le (tt := tt) (FT := FT) (SP := SP) (j := 27) rfl (by kernel_rfl)
noncomputable def L_spec_l03Widthx0 (a0 : List STable) (a1 : List SNode) (y2 : List Int) (f0 : (Int × (List Int) × Int) → Option (Ex Int (Int × (List Int)))) (v3 : Int) (v4 : List Int) (v5 : Int) : Option (Ex Int (Int × (List Int))) :=
  (bif (decide (v5 < (y2.length : Int))) then
  (ix y2 v5).bind (fun z6 => (F_spec_l03Width a0 a1 z6).bind (fun y7 => (bif (decide (y7 < 0)) then
  some (.ret (-1))
  else (apx v4 ([y7])).bind (fun z8 => f0 (v3, z8, (IntKind.i64.wrap (v5 + 1)))))))
  else some (.go (v3, v4)))
noncomputable def L_spec_l03Widthx1 (z1 : SNode) (v10 : List Int) (f1 : (Int × Int) → Option (Ex (Ex Int Int) Int)) (v15 : Int) (v16 : Int) : Option (Ex (Ex Int Int) Int) :=
  (bif (decide (v16 < (z1.2.2.2.2.2.2.1.length : Int))) then
  (ix z1.2.2.2.2.2.2.1 v16).bind (fun z17 => (ix v10 0).bind (fun z18 => (bif (decide (z17 ≥ z18)) then
  some (.ret (.ret (-1)))
  else f1 (v15, (IntKind.i64.wrap (v16 + 1))))))
  else some (.go v15))
@[simp] noncomputable def J_spec_l03Widthx3 (z1 : SNode) (v19 : Int) : Option (Ex Int Int) :=
  some (.ret (z1.2.2.2.2.2.2.1.length : Int))
@[simp] noncomputable def J_spec_l03Widthx4 (v10 : List Int) (v24 : Bool) : Option (Ex Int Int) :=
  (bif v24 then
  some (.ret (-1))
  else (ix v10 0).bind (fun z25 => (ix v10 1).bind (fun z26 => some (.ret (IntKind.i64.wrap (z25 + z26))))))
@[simp] noncomputable def J_spec_l03Widthx2 (z1 : SNode) (v9 : Int) (v10 : List Int) (v13 : Bool) : Option (Ex Int Int) :=
  (bif v13 then
  (ix v10 0).bind (fun z14 => (bif (decide (z1.2.2.1 ≥ z14)) then
  some (.ret (-1))
  else some (.go v9)))
  else (bif (z1.1 == 2) then
  joinK (loopF (fun f s => L_spec_l03Widthx1 z1 v10 f s.1 s.2) (v9, 0))
  (fun s => J_spec_l03Widthx3 z1 s)
  else (bif (z1.1 == 3) then
  joinK ((ix v10 0).bind (fun z20 => (bif (decide (z1.2.2.1 ≥ z20)) then
  some (.go true)
  else (ix v10 1).bind (fun z21 => (bif (decide (z1.2.2.2.2.1 ≥ z21)) then
  some (.go true)
  else (ix v10 0).bind (fun z22 => (ix v10 1).bind (fun z23 => some (.go (decide ((IntKind.i64.wrap (z22 + z23)) > 64))))))))))
  (fun s => J_spec_l03Widthx4 v10 s)
  else (bif (z1.1 == 4) then
  (ix v10 0).bind (fun z27 => (ix v10 1).bind (fun z28 => (bif (z27 != z28) then
  some (.ret (-1))
  else some (.go v9))))
  else some (.go v9)))))
@[simp] noncomputable def J_spec_l03Widthx1 (v10 : List Int) (v29 : Int) : Option Int :=
  (ix v10 0).bind (fun z30 => some z30)
@[simp] noncomputable def J_spec_l03Widthx0 (a0 : List STable) (z1 : SNode) (v9 : Int) (v10 : List Int) : Option Int :=
  joinK ((bif (z1.1 == 0) then
  (F_spec_l03Find a0 z1.2.1).bind (fun y11 => (bif (decide (y11 < 0)) then
  some (.ret (-1))
  else (ix a0 y11).bind (fun z12 => some (.ret z12.2.1))))
  else joinK ((bif (z1.1 == 1) then
  some (.go true)
  else some (.go (z1.1 == 5))))
  (fun s => J_spec_l03Widthx2 z1 v9 v10 s)))
  (fun s => J_spec_l03Widthx1 v10 s)
theorem U_spec_l03Width (a0 : List STable) (a1 : List SNode) (a2 : Int) : Le ((ix a1 a2).bind (fun z1 => (F_spec_l02Kids a1 a2).bind (fun y2 => joinK (loopF (fun f s => L_spec_l03Widthx0 a0 a1 y2 f s.1 s.2.1 s.2.2) (0, [], 0))
  (fun s => J_spec_l03Widthx0 a0 z1 s.1 s.2)))) (F_spec_l03Width a0 a1 a2) := callL_le (tt := tt) (FT := FT) (SP := SP) (j := 28) rfl (by kernel_rfl)
noncomputable def L_spec_l02Kidsx0 (a0 : List SNode) (a1 : Int) (f0 : ((List Int) × Int × Int) → Option (Ex (List Int) (List Int))) (v1 : List Int) (v2 : Int) (v3 : Int) : Option (Ex (List Int) (List Int)) :=
  (ix a0 a1).bind (fun z4 => (F_spec_ArityOf z4.1).bind (fun y5 => (bif (decide (v3 < y5)) then
  (apx v1 ([v2])).bind (fun z6 => (F_spec_l02End a0 v2 10).bind (fun y7 => f0 (z6, y7.1, (IntKind.i64.wrap (v3 + 1)))))
  else some (.go v1))))
@[simp] noncomputable def J_spec_l02Kidsx0 (v8 : List Int) : Option (List Int) :=
  some v8
theorem U_spec_l02Kids (a0 : List SNode) (a1 : Int) : Le (joinK (loopF (fun f s => L_spec_l02Kidsx0 a0 a1 f s.1 s.2.1 s.2.2) ([], (IntKind.i64.wrap (a1 + 1)), 0))
  (fun s => J_spec_l02Kidsx0 s)) (F_spec_l02Kids a0 a1) := callL_le (tt := tt) (FT := FT) (SP := SP) (j := 29) rfl (by kernel_rfl)
noncomputable def L_spec_l03Findx0 (a0 : List STable) (a1 : ByteArray) (f0 : (Int × Int) → Option (Ex Int Int)) (v1 : Int) (v2 : Int) : Option (Ex Int Int) :=
  (bif (decide (v2 < (a0.length : Int))) then
  (ix a0 v2).bind (fun z3 => (bif (z3.1.toList == a1.toList) then
  some (.ret v2)
  else f0 (v1, (IntKind.i64.wrap (v2 + 1)))))
  else some (.go v1))
@[simp] noncomputable def J_spec_l03Findx0 (v4 : Int) : Option Int :=
  some (-1)
theorem U_spec_l03Find (a0 : List STable) (a1 : ByteArray) : Le (joinK (loopF (fun f s => L_spec_l03Findx0 a0 a1 f s.1 s.2) (0, 0))
  (fun s => J_spec_l03Findx0 s)) (F_spec_l03Find a0 a1) := callL_le (tt := tt) (FT := FT) (SP := SP) (j := 30) rfl (by kernel_rfl)
noncomputable def L_spec_l12Guessx0 (a0 : List STable) (a1 : List Int) (a2 : List SNode) (y2 : List Int) (f0 : ((List Int) × Int) → Option (Ex Int (List Int))) (v3 : List Int) (v4 : Int) : Option (Ex Int (List Int)) :=
  (bif (decide (v4 < (y2.length : Int))) then
  (ix y2 v4).bind (fun z5 => (F_spec_l12Guess a0 a1 a2 z5).bind (fun y6 => (apx v3 ([y6])).bind (fun z7 => f0 (z7, (IntKind.i64.wrap (v4 + 1))))))
  else some (.go v3))
@[simp] noncomputable def J_spec_l12Guessx2 (v8 : List Int) (v20 : Int) : Option (Ex Int Int) :=
  (ix v8 0).bind (fun z21 => (bif (decide (v20 < z21)) then
  some (.ret v20)
  else some (.go 0)))
@[simp] noncomputable def J_spec_l12Guessx1 (v8 : List Int) (v22 : Int) : Option Int :=
  (ix v8 0).bind (fun z23 => some z23)
@[simp] noncomputable def J_spec_l12Guessx0 (a0 : List STable) (a1 : List Int) (z1 : SNode) (v8 : List Int) : Option Int :=
  joinK ((bif (z1.1 == 0) then
  (F_spec_l03Find a0 z1.2.1).bind (fun y9 => (ix a1 y9).bind (fun z10 => some (.ret z10)))
  else (bif (z1.1 == 1) then
  (ix v8 0).bind (fun z11 => (quox (IntKind.i64.wrap (z11 + 1)) 2).bind (fun z12 => some (.ret z12)))
  else (bif (z1.1 == 3) then
  (ix v8 0).bind (fun z13 => (ix v8 1).bind (fun z14 => (quox (IntKind.i64.wrap ((IntKind.i64.wrap (z13 * z14)) + 3)) 4).bind (fun z15 => (F_spec_l12Cut z15).bind (fun y16 => some (.ret y16)))))
  else (bif (z1.1 == 4) then
  (ix v8 0).bind (fun z17 => (ix v8 1).bind (fun z18 => (F_spec_l12Cut (IntKind.i64.wrap (z17 + z18))).bind (fun y19 => some (.ret y19))))
  else (bif (z1.1 == 6) then
  joinK ((bif z1.2.2.2.2.2.1 then
  some (.go 10)
  else some (.go z1.2.2.2.2.1)))
  (fun s => J_spec_l12Guessx2 v8 s)
  else some (.go 0)))))))
  (fun s => J_spec_l12Guessx1 v8 s)
theorem U_spec_l12Guess (a0 : List STable) (a1 : List Int) (a2 : List SNode) (a3 : Int) : Le ((ix a2 a3).bind (fun z1 => (F_spec_l02Kids a2 a3).bind (fun y2 => joinK (loopF (fun f s => L_spec_l12Guessx0 a0 a1 a2 y2 f s.1 s.2) ([], 0))
  (fun s => J_spec_l12Guessx0 a0 a1 z1 s)))) (F_spec_l12Guess a0 a1 a2 a3) := callL_le (tt := tt) (FT := FT) (SP := SP) (j := 31) rfl (by kernel_rfl)
theorem U_spec_l12Cut (a0 : Int) : Le ((bif (decide (a0 > 1000000)) then
  some 1000000
  else some a0)) (F_spec_l12Cut a0) := callL_le (tt := tt) (FT := FT) (SP := SP) (j := 32) rfl (by kernel_rfl)
@[simp] noncomputable def J_spec_BestStepx1 (v7 : Int) (f0 : (Int × Int × Int × Bool × Int) → Option (Ex (SStep × Bool) (Int × Int × Bool))) (v12 : Int) (v13 : Int) (v14 : Int) (v15 : Bool) : Option (Ex (SStep × Bool) (Int × Int × Bool)) :=
  f0 (v12, v13, v14, v15, (IntKind.i64.wrap (v7 + 1)))
noncomputable def L_spec_BestStepx0 (a0 : List STable) (a1 : List Int) (a2 : List SNode) (y2 : List SStep) (f0 : (Int × Int × Int × Bool × Int) → Option (Ex (SStep × Bool) (Int × Int × Bool))) (v3 : Int) (v4 : Int) (v5 : Int) (v6 : Bool) (v7 : Int) : Option (Ex (SStep × Bool) (Int × Int × Bool)) :=
  (bif (decide (v7 < (y2.length : Int))) then
  joinK ((ix y2 v7).bind (fun z8 => (F_spec_ApplyStep a0 a2 z8).bind (fun y9 => (F_spec_CostOf a0 a1 y9.1).bind (fun y10 => (bif (decide (y10 < v5)) then
  (ix y2 v7).bind (fun z11 => some (.go (z11.1, z11.2.1, y10, true)))
  else some (.go (v3, v4, v5, v6)))))))
  (fun s => J_spec_BestStepx1 v7 f0 s.1 s.2.1 s.2.2.1 s.2.2.2)
  else some (.go (v3, v4, v6)))
@[simp] noncomputable def J_spec_BestStepx0 (v16 : Int) (v17 : Int) (v18 : Bool) : Option (SStep × Bool) :=
  some ((v16, (v17, ())), v18)
theorem U_spec_BestStep (a0 : List STable) (a1 : List Int) (a2 : List SNode) : Le ((F_spec_CostOf a0 a1 a2).bind (fun y1 => (bif (decide (y1 < 0)) then
  some ((0, (0, ())), false)
  else (F_spec_StepsAt a0 a2).bind (fun y2 => joinK (loopF (fun f s => L_spec_BestStepx0 a0 a1 a2 y2 f s.1 s.2.1 s.2.2.1 s.2.2.2.1 s.2.2.2.2) (0, 0, y1, false, 0))
  (fun s => J_spec_BestStepx0 s.1 s.2.1 s.2.2))))) (F_spec_BestStep a0 a1 a2) := callL_le (tt := tt) (FT := FT) (SP := SP) (j := 33) rfl (by kernel_rfl)
@[simp] noncomputable def J_spec_StepsAtx2 (v5 : Int) (f1 : ((List SStep) × Int) → Option (Ex (Ex (List SStep) (List SStep)) (List SStep))) (v8 : List SStep) : Option (Ex (Ex (List SStep) (List SStep)) (List SStep)) :=
  f1 (v8, (IntKind.i64.wrap (v5 + 1)))
noncomputable def L_spec_StepsAtx1 (a0 : List STable) (a1 : List SNode) (v3 : Int) (f1 : ((List SStep) × Int) → Option (Ex (Ex (List SStep) (List SStep)) (List SStep))) (v4 : List SStep) (v5 : Int) : Option (Ex (Ex (List SStep) (List SStep)) (List SStep)) :=
  (bif (decide (v5 < 12)) then
  joinK ((F_spec_ApplyStep a0 a1 (v5, (v3, ()))).bind (fun y6 => (bif y6.2 then
  (apx v4 ([(v5, (v3, ()))])).bind (fun z7 => some (.go z7))
  else some (.go v4))))
  (fun s => J_spec_StepsAtx2 v5 f1 s)
  else some (.go v4))
@[simp] noncomputable def J_spec_StepsAtx1 (v3 : Int) (f0 : ((List SStep) × Int) → Option (Ex (List SStep) (List SStep))) (v9 : List SStep) : Option (Ex (List SStep) (List SStep)) :=
  f0 (v9, (IntKind.i64.wrap (v3 + 1)))
noncomputable def L_spec_StepsAtx0 (a0 : List STable) (a1 : List SNode) (f0 : ((List SStep) × Int) → Option (Ex (List SStep) (List SStep))) (v2 : List SStep) (v3 : Int) : Option (Ex (List SStep) (List SStep)) :=
  (bif (decide (v3 < (a1.length : Int))) then
  joinK (loopF (fun f s => L_spec_StepsAtx1 a0 a1 v3 f s.1 s.2) (v2, 0))
  (fun s => J_spec_StepsAtx1 v3 f0 s)
  else some (.go v2))
@[simp] noncomputable def J_spec_StepsAtx0 (v10 : List SStep) : Option (List SStep) :=
  some v10
theorem U_spec_StepsAt (a0 : List STable) (a1 : List SNode) : Le ((F_spec_TypedOk a0 a1).bind (fun y1 => (bif (!y1) then
  some ([])
  else joinK (loopF (fun f s => L_spec_StepsAtx0 a0 a1 f s.1 s.2) ([], 0))
  (fun s => J_spec_StepsAtx0 s)))) (F_spec_StepsAt a0 a1) := callL_le (tt := tt) (FT := FT) (SP := SP) (j := 34) rfl (by kernel_rfl)
@[simp] noncomputable def J_spec_ApplyStepx1 (a0 : List STable) (a1 : List SNode) (a2 : SStep) (y1 : List SNode) (v9 : Bool) : Option ((List SNode) × Bool) :=
  (bif v9 then
  some (y1, false)
  else (F_spec_l08Part a0 a1 a2.1 a2.2.1).bind (fun y10 => (bif (!y10.2) then
  some (y1, false)
  else (F_spec_l02End a1 a2.2.1 10).bind (fun y11 => (slx a1 0 a2.2.1).bind (fun z12 => (slx a1 y11.1 (a1.length : Int)).bind (fun z13 => (F_spec_l02Joined ([z12, y10.1, z13])).bind (fun y14 => (F_spec_PlanOk y14).bind (fun y15 => (bif (!y15) then
  some (y1, false)
  else some (y14, true))))))))))
@[simp] noncomputable def J_spec_ApplyStepx0 (a0 : List STable) (a1 : List SNode) (a2 : SStep) (y1 : List SNode) (v5 : Bool) : Option ((List SNode) × Bool) :=
  (bif v5 then
  some (y1, false)
  else (F_spec_l08Two a2.1).bind (fun y6 => joinK ((ix a1 a2.2.1).bind (fun z7 => (bif (z7.1 != y6.1) then
  some (.go true)
  else (ix a1 (IntKind.i64.wrap (a2.2.1 + 1))).bind (fun z8 => some (.go (z8.1 != y6.2))))))
  (fun s => J_spec_ApplyStepx1 a0 a1 a2 y1 s)))
theorem U_spec_ApplyStep (a0 : List STable) (a1 : List SNode) (a2 : SStep) : Le ((F_spec_l02Copy a1).bind (fun y1 => joinK ((F_spec_TypedOk a0 a1).bind (fun y2 => (bif (!y2) then
  some (.go true)
  else (F_spec_l01In a2.1 0 11).bind (fun y3 => (bif (!y3) then
  some (.go true)
  else (F_spec_l01In a2.2.1 0 (IntKind.i64.wrap ((a1.length : Int) - 2))).bind (fun y4 => some (.go (!y4))))))))
  (fun s => J_spec_ApplyStepx0 a0 a1 a2 y1 s))) (F_spec_ApplyStep a0 a1 a2) := callL_le (tt := tt) (FT := FT) (SP := SP) (j := 35) rfl (by kernel_rfl)
theorem U_spec_l08Two (a0 : Int) : Le ((ix ([1, 1, 6, 5, 1, 1, 1, 7, 2, 6, 1, 7]) a0).bind (fun z1 => (ix ([1, 5, 6, 5, 4, 3, 3, 7, 2, 2, 2, 5]) a0).bind (fun z2 => some (z1, z2)))) (F_spec_l08Two a0) := callL_le (tt := tt) (FT := FT) (SP := SP) (j := 36) rfl (by kernel_rfl)
noncomputable def L_spec_l08Partx0 (a1 : List SNode) (y3 : List Int) (f0 : ((List (List SNode)) × Int) → Option (Ex ((List SNode) × Bool) (List (List SNode)))) (v4 : List (List SNode)) (v5 : Int) : Option (Ex ((List SNode) × Bool) (List (List SNode))) :=
  (bif (decide (v5 < (y3.length : Int))) then
  (ix y3 v5).bind (fun z6 => (F_spec_l02End a1 z6 10).bind (fun y7 => (ix y3 v5).bind (fun z8 => (slx a1 z8 y7.1).bind (fun z9 => (apx v4 ([z9])).bind (fun z10 => f0 (z10, (IntKind.i64.wrap (v5 + 1))))))))
  else some (.go v4))
@[simp] noncomputable def J_spec_l08Partx4 (v11 : List (List SNode)) (v17 : Int) (v18 : ByteArray) (v19 : Int) (v20 : Int) (v21 : Int) (v22 : Bool) (v23 : List Int) : Option (Ex ((List SNode) × Bool) ((List SNode) × Bool × Int × ByteArray × Int × Int × Int × Bool × (List Int) × Int × ByteArray × Int × Int × Int × Bool × (List Int))) :=
  (ix v11 0).bind (fun z24 => (ix v11 0).bind (fun z25 => (F_spec_l02Joined ([[(v17, (v18, (v19, (v20, (v21, (v22, (v23, ())))))))], z25])).bind (fun y26 => some (.ret (y26, true)))))
@[simp] noncomputable def J_spec_l08Partx3 (z1 : SNode) (z2 : SNode) (v11 : List (List SNode)) (v16 : Bool) : Option (Ex ((List SNode) × Bool) ((List SNode) × Bool × Int × ByteArray × Int × Int × Int × Bool × (List Int) × Int × ByteArray × Int × Int × Int × Bool × (List Int))) :=
  (bif v16 then
  some (.ret ([], false))
  else joinK ((bif (decide (z1.2.2.2.2.1 < z2.2.2.2.2.1)) then
  some (.go (z2.1, z2.2.1, z2.2.2.1, z2.2.2.2.1, z1.2.2.2.2.1, z2.2.2.2.2.2.1, z2.2.2.2.2.2.2.1))
  else some (.go (z2.1, z2.2.1, z2.2.2.1, z2.2.2.2.1, z2.2.2.2.2.1, z2.2.2.2.2.2.1, z2.2.2.2.2.2.2.1))))
  (fun s => J_spec_l08Partx4 v11 s.1 s.2.1 s.2.2.1 s.2.2.2.1 s.2.2.2.2.1 s.2.2.2.2.2.1 s.2.2.2.2.2.2))
noncomputable def L_spec_l08Partx1 (z1 : SNode) (z2 : SNode) (f1 : ((List Int) × Int) → Option (Ex (Ex ((List SNode) × Bool) ((List SNode) × Bool × Int × ByteArray × Int × Int × Int × Bool × (List Int) × Int × ByteArray × Int × Int × Int × Bool × (List Int))) (List Int))) (v51 : List Int) (v52 : Int) : Option (Ex (Ex ((List SNode) × Bool) ((List SNode) × Bool × Int × ByteArray × Int × Int × Int × Bool × (List Int) × Int × ByteArray × Int × Int × Int × Bool × (List Int))) (List Int)) :=
  (bif (decide (v52 < (z1.2.2.2.2.2.2.1.length : Int))) then
  (ix z1.2.2.2.2.2.2.1 v52).bind (fun z53 => (ix z2.2.2.2.2.2.2.1 z53).bind (fun z54 => (apx v51 ([z54])).bind (fun z55 => f1 (z55, (IntKind.i64.wrap (v52 + 1))))))
  else some (.go v51))
@[simp] noncomputable def J_spec_l08Partx6 (z1 : SNode) (v11 : List (List SNode)) (v56 : List Int) : Option (Ex ((List SNode) × Bool) ((List SNode) × Bool × Int × ByteArray × Int × Int × Int × Bool × (List Int) × Int × ByteArray × Int × Int × Int × Bool × (List Int))) :=
  (ix v11 0).bind (fun z57 => (ix v11 0).bind (fun z58 => (F_spec_l02Joined ([[(z1.1, (z1.2.1, (z1.2.2.1, (z1.2.2.2.1, (z1.2.2.2.2.1, (z1.2.2.2.2.2.1, (v56, ())))))))], z58])).bind (fun y59 => some (.ret (y59, true)))))
@[simp] noncomputable def J_spec_l08Partx5 (a0 : List STable) (a1 : List SNode) (a2 : Int) (z1 : SNode) (z2 : SNode) (y3 : List Int) (v11 : List (List SNode)) (v35 : Bool) : Option (Ex ((List SNode) × Bool) ((List SNode) × Bool × Int × ByteArray × Int × Int × Int × Bool × (List Int) × Int × ByteArray × Int × Int × Int × Bool × (List Int))) :=
  (bif v35 then
  (ix y3 0).bind (fun z36 => (F_spec_l03Width a0 a1 z36).bind (fun y37 => (bif (a2 == 5) then
  (ix v11 0).bind (fun z38 => (ix v11 0).bind (fun z39 => (ix v11 1).bind (fun z40 => (ix v11 1).bind (fun z41 => (F_spec_l02Joined ([[(z2.1, (z2.2.1, (z2.2.2.1, (z2.2.2.2.1, (z2.2.2.2.2.1, (z2.2.2.2.2.2.1, (z2.2.2.2.2.2.2.1, ())))))))], [(z1.1, (z1.2.1, (z1.2.2.1, (z1.2.2.2.1, (z1.2.2.2.2.1, (z1.2.2.2.2.2.1, (z1.2.2.2.2.2.2.1, ())))))))], z39, z41])).bind (fun y42 => some (.ret (y42, (decide (z1.2.2.1 < y37)))))))))
  else (ix v11 0).bind (fun z43 => (ix v11 0).bind (fun z44 => (ix v11 1).bind (fun z45 => (ix v11 1).bind (fun z46 => (F_spec_l02Joined ([[(z2.1, (z2.2.1, (z2.2.2.1, (z2.2.2.2.1, (z2.2.2.2.2.1, (z2.2.2.2.2.2.1, (z2.2.2.2.2.2.2.1, ())))))))], z44, [(z1.1, (z1.2.1, ((IntKind.i64.wrap (z1.2.2.1 - y37)), (z1.2.2.2.1, (z1.2.2.2.2.1, (z1.2.2.2.2.2.1, (z1.2.2.2.2.2.2.1, ())))))))], z46])).bind (fun y47 => some (.ret (y47, (decide ((IntKind.i64.wrap (z1.2.2.1 - y37)) ≥ 0))))))))))))
  else (bif (a2 == 7) then
  (ix v11 0).bind (fun z48 => (ix v11 0).bind (fun z49 => (F_spec_l02Joined ([[(z2.1, (z2.2.1, (z2.2.2.1, (z2.2.2.2.1, (z2.2.2.2.2.1, (z2.2.2.2.2.2.1, (z2.2.2.2.2.2.2.1, ())))))))], z49])).bind (fun y50 => some (.ret (y50, true)))))
  else (bif (a2 == 8) then
  joinK (loopF (fun f s => L_spec_l08Partx1 z1 z2 f s.1 s.2) ([], 0))
  (fun s => J_spec_l08Partx6 z1 v11 s)
  else some (.go ([], false, z1.1, z1.2.1, z1.2.2.1, z1.2.2.2.1, z1.2.2.2.2.1, z1.2.2.2.2.2.1, z1.2.2.2.2.2.2.1, z2.1, z2.2.1, z2.2.2.1, z2.2.2.2.1, z2.2.2.2.2.1, z2.2.2.2.2.2.1, z2.2.2.2.2.2.2.1)))))
@[simp] noncomputable def J_spec_l08Partx2 (a0 : List STable) (a1 : List SNode) (a2 : Int) (z1 : SNode) (z2 : SNode) (y3 : List Int) (v11 : List (List SNode)) (v12 : Bool) : Option (Ex ((List SNode) × Bool) ((List SNode) × Bool × Int × ByteArray × Int × Int × Int × Bool × (List Int) × Int × ByteArray × Int × Int × Int × Bool × (List Int))) :=
  (bif v12 then
  (ix v11 0).bind (fun z13 => (ix v11 0).bind (fun z14 => (F_spec_l02Joined ([[(z2.1, (z2.2.1, (z2.2.2.1, (z2.2.2.2.1, (z2.2.2.2.2.1, (z2.2.2.2.2.2.1, (z2.2.2.2.2.2.2.1, ())))))))], [(z1.1, (z1.2.1, (z1.2.2.1, (z1.2.2.2.1, (z1.2.2.2.2.1, (z1.2.2.2.2.2.1, (z1.2.2.2.2.2.2.1, ())))))))], z14])).bind (fun y15 => some (.ret (y15, true)))))
  else (bif (a2 == 2) then
  joinK ((bif z1.2.2.2.2.2.1 then
  some (.go true)
  else some (.go z2.2.2.2.2.2.1)))
  (fun s => J_spec_l08Partx3 z1 z2 v11 s)
  else (bif (a2 == 3) then
  (ix v11 0).bind (fun z27 => (ix v11 0).bind (fun z28 => (F_spec_l02Joined ([[(z2.1, (z2.2.1, (z2.2.2.1, (z2.2.2.2.1, (z2.2.2.2.2.1, (z2.2.2.2.2.2.1, (z2.2.2.2.2.2.2.1, ())))))))], z28])).bind (fun y29 => some (.ret (y29, (z1.2.2.1 == z2.2.2.1))))))
  else (bif (a2 == 4) then
  (ix v11 0).bind (fun z30 => (ix v11 0).bind (fun z31 => (ix v11 1).bind (fun z32 => (ix v11 1).bind (fun z33 => (F_spec_l02Joined ([[(z2.1, (z2.2.1, (z2.2.2.1, (z2.2.2.2.1, (z2.2.2.2.2.1, (z2.2.2.2.2.2.1, (z2.2.2.2.2.2.2.1, ())))))))], [(z1.1, (z1.2.1, (z1.2.2.1, (z1.2.2.2.1, (z1.2.2.2.2.1, (z1.2.2.2.2.2.1, (z1.2.2.2.2.2.2.1, ())))))))], z31, [(z1.1, (z1.2.1, (z1.2.2.1, (z1.2.2.2.1, (z1.2.2.2.2.1, (z1.2.2.2.2.2.1, (z1.2.2.2.2.2.2.1, ())))))))], z33])).bind (fun y34 => some (.ret (y34, true)))))))
  else joinK ((bif (a2 == 5) then
  some (.go true)
  else some (.go (a2 == 6))))
  (fun s => J_spec_l08Partx5 a0 a1 a2 z1 z2 y3 v11 s)))))
@[simp] noncomputable def J_spec_l08Partx1 (v11 : List (List SNode)) (v60 : List SNode) (v61 : Bool) (v62 : Int) (v63 : ByteArray) (v64 : Int) (v65 : Int) (v66 : Int) (v67 : Bool) (v68 : List Int) (v69 : Int) (v70 : ByteArray) (v71 : Int) (v72 : Int) (v73 : Int) (v74 : Bool) (v75 : List Int) : Option ((List SNode) × Bool) :=
  (ix v75 v64).bind (fun z76 => (ix v11 0).bind (fun z77 => (ix v11 0).bind (fun z78 => (F_spec_l02Joined ([[(v69, (v70, (v71, (v72, (v73, (v74, (v75, ())))))))], [(v62, (v63, (z76, (v65, (v66, (v67, (v68, ())))))))], z78])).bind (fun y79 => some (y79, true)))))
@[simp] noncomputable def J_spec_l08Partx0 (a0 : List STable) (a1 : List SNode) (a2 : Int) (z1 : SNode) (z2 : SNode) (y3 : List Int) (v11 : List (List SNode)) : Option ((List SNode) × Bool) :=
  joinK (joinK ((bif (a2 == 0) then
  some (.go true)
  else (bif (a2 == 1) then
  some (.go true)
  else (bif (a2 == 9) then
  some (.go true)
  else some (.go (a2 == 11))))))
  (fun s => J_spec_l08Partx2 a0 a1 a2 z1 z2 y3 v11 s))
  (fun s => J_spec_l08Partx1 v11 s.1 s.2.1 s.2.2.1 s.2.2.2.1 s.2.2.2.2.1 s.2.2.2.2.2.1 s.2.2.2.2.2.2.1 s.2.2.2.2.2.2.2.1 s.2.2.2.2.2.2.2.2.1 s.2.2.2.2.2.2.2.2.2.1 s.2.2.2.2.2.2.2.2.2.2.1 s.2.2.2.2.2.2.2.2.2.2.2.1 s.2.2.2.2.2.2.2.2.2.2.2.2.1 s.2.2.2.2.2.2.2.2.2.2.2.2.2.1 s.2.2.2.2.2.2.2.2.2.2.2.2.2.2.1 s.2.2.2.2.2.2.2.2.2.2.2.2.2.2.2)
theorem U_spec_l08Part (a0 : List STable) (a1 : List SNode) (a2 : Int) (a3 : Int) : Le ((ix a1 a3).bind (fun z1 => (ix a1 (IntKind.i64.wrap (a3 + 1))).bind (fun z2 => (F_spec_l02Kids a1 (IntKind.i64.wrap (a3 + 1))).bind (fun y3 => joinK (loopF (fun f s => L_spec_l08Partx0 a1 y3 f s.1 s.2) ([], 0))
  (fun s => J_spec_l08Partx0 a0 a1 a2 z1 z2 y3 s))))) (F_spec_l08Part a0 a1 a2 a3) := callL_le (tt := tt) (FT := FT) (SP := SP) (j := 37) rfl (by kernel_rfl)
noncomputable def L_spec_l02Joinedx0 (a0 : List (List SNode)) (f0 : ((List SNode) × Int) → Option (Ex (List SNode) (List SNode))) (v1 : List SNode) (v2 : Int) : Option (Ex (List SNode) (List SNode)) :=
  (bif (decide (v2 < (a0.length : Int))) then
  (ix a0 v2).bind (fun z3 => (F_spec_l02Copy z3).bind (fun y4 => (apx v1 y4).bind (fun z5 => f0 (z5, (IntKind.i64.wrap (v2 + 1))))))
  else some (.go v1))
@[simp] noncomputable def J_spec_l02Joinedx0 (v6 : List SNode) : Option (List SNode) :=
  some v6
theorem U_spec_l02Joined (a0 : List (List SNode)) : Le (joinK (loopF (fun f s => L_spec_l02Joinedx0 a0 f s.1 s.2) ([], 0))
  (fun s => J_spec_l02Joinedx0 s)) (F_spec_l02Joined a0) := callL_le (tt := tt) (FT := FT) (SP := SP) (j := 38) rfl (by kernel_rfl)
noncomputable def L_impl_Improvex0 (a0 : List STable) (a1 : List Int) (f0 : ((List SNode) × (List SStep)) → Option (Ex ((List SNode) × (List SStep)) ((List SNode) × (List SStep)))) (v2 : List SNode) (v3 : List SStep) : Option (Ex ((List SNode) × (List SStep)) ((List SNode) × (List SStep))) :=
  (bif (decide ((v3.length : Int) < 20)) then
  (F_impl_BestStep a0 a1 v2).bind (fun y4 => (bif (!y4.2) then
  some (.go (v2, v3))
  else (F_impl_apply a0 v2 (y4.1.1, (y4.1.2.1, ()))).bind (fun y5 => (apx v3 ([(y4.1.1, (y4.1.2.1, ()))])).bind (fun z6 => f0 (y5.1, z6)))))
  else some (.go (v2, v3)))
@[simp] noncomputable def J_impl_Improvex0 (v7 : List SNode) (v8 : List SStep) : Option ((List SNode) × (List SStep)) :=
  some (v7, v8)
theorem U_impl_Improve (a0 : List STable) (a1 : List Int) (a2 : List SNode) : Le ((F_impl_own a2).bind (fun y1 => joinK (loopF (fun f s => L_impl_Improvex0 a0 a1 f s.1 s.2) (y1, []))
  (fun s => J_impl_Improvex0 s.1 s.2))) (F_impl_Improve a0 a1 a2) := callL_le (tt := tt) (FT := FT) (SP := SP) (j := 39) rfl (by kernel_rfl)
noncomputable def L_impl_ownx0 (a0 : List SNode) (f0 : ((List SNode) × Int) → Option (Ex (List SNode) (List SNode))) (v1 : List SNode) (v2 : Int) : Option (Ex (List SNode) (List SNode)) :=
  (bif (decide (v2 < (a0.length : Int))) then
  (ix a0 v2).bind (fun z3 => (F_slices_Clone_Lint z3.2.2.2.2.2.2.1).bind (fun y4 => (apx v1 ([(z3.1, (z3.2.1, (z3.2.2.1, (z3.2.2.2.1, (z3.2.2.2.2.1, (z3.2.2.2.2.2.1, (y4, ())))))))])).bind (fun z5 => f0 (z5, (IntKind.i64.wrap (v2 + 1))))))
  else some (.go v1))
@[simp] noncomputable def J_impl_ownx0 (v6 : List SNode) : Option (List SNode) :=
  some v6
theorem U_impl_own (a0 : List SNode) : Le (joinK (loopF (fun f s => L_impl_ownx0 a0 f s.1 s.2) ([], 0))
  (fun s => J_impl_ownx0 s)) (F_impl_own a0) := callL_le (tt := tt) (FT := FT) (SP := SP) (j := 40) rfl (by kernel_rfl)
theorem U_slices_Clone_Lint (a0 : List Int) : Le ((nilx a0.isEmpty
  (some ([]))
  ((apx ([]) a0).bind (fun z1 => some z1)))) (F_slices_Clone_Lint a0) := callL_le (tt := tt) (FT := FT) (SP := SP) (j := 41) rfl (by kernel_rfl)
@[simp] noncomputable def J_impl_BestStepx2 (v3 : Int) (v4 : Int) (v5 : Int) (v6 : Bool) (z8 : SStep) (y10 : Int) (v11 : Bool) : Option (Ex (Ex (SStep × Bool) (Int × Int × Bool)) (Int × Int × Int × Bool)) :=
  (bif v11 then
  some (.go (y10, z8.1, z8.2.1, true))
  else some (.go (v3, v4, v5, v6)))
@[simp] noncomputable def J_impl_BestStepx1 (v7 : Int) (f0 : (Int × Int × Int × Bool × Int) → Option (Ex (SStep × Bool) (Int × Int × Bool))) (v12 : Int) (v13 : Int) (v14 : Int) (v15 : Bool) : Option (Ex (SStep × Bool) (Int × Int × Bool)) :=
  f0 (v12, v13, v14, v15, (IntKind.i64.wrap (v7 + 1)))
noncomputable def L_impl_BestStepx0 (a0 : List STable) (a1 : List Int) (a2 : List SNode) (y2 : List SStep) (f0 : (Int × Int × Int × Bool × Int) → Option (Ex (SStep × Bool) (Int × Int × Bool))) (v3 : Int) (v4 : Int) (v5 : Int) (v6 : Bool) (v7 : Int) : Option (Ex (SStep × Bool) (Int × Int × Bool)) :=
  (bif (decide (v7 < (y2.length : Int))) then
  joinK ((ix y2 v7).bind (fun z8 => (F_impl_apply a0 a2 (z8.1, (z8.2.1, ()))).bind (fun y9 => (F_impl_CostOf a0 a1 y9.1).bind (fun y10 => joinK ((bif (decide (y10 ≥ 0)) then
  some (.go (decide (y10 < v3)))
  else some (.go false)))
  (fun s => J_impl_BestStepx2 v3 v4 v5 v6 z8 y10 s)))))
  (fun s => J_impl_BestStepx1 v7 f0 s.1 s.2.1 s.2.2.1 s.2.2.2)
  else some (.go (v4, v5, v6)))
@[simp] noncomputable def J_impl_BestStepx0 (v16 : Int) (v17 : Int) (v18 : Bool) : Option (SStep × Bool) :=
  some ((v16, (v17, ())), v18)
theorem U_impl_BestStep (a0 : List STable) (a1 : List Int) (a2 : List SNode) : Le ((F_impl_CostOf a0 a1 a2).bind (fun y1 => (bif (decide (y1 < 0)) then
  some ((0, (0, ())), false)
  else joinK ((F_impl_StepsAt a0 a2).bind (fun y2 => loopF (fun f s => L_impl_BestStepx0 a0 a1 a2 y2 f s.1 s.2.1 s.2.2.1 s.2.2.2.1 s.2.2.2.2) (y1, 0, 0, false, 0)))
  (fun s => J_impl_BestStepx0 s.1 s.2.1 s.2.2)))) (F_impl_BestStep a0 a1 a2) := callL_le (tt := tt) (FT := FT) (SP := SP) (j := 42) rfl (by kernel_rfl)
theorem U_impl_CostOf (a0 : List STable) (a1 : List Int) (a2 : List SNode) : Le ((F_impl_reckon a0 a1 a2).bind (fun y1 => some y1.2)) (F_impl_CostOf a0 a1 a2) := callL_le (tt := tt) (FT := FT) (SP := SP) (j := 43) rfl (by kernel_rfl)
@[simp] noncomputable def J_impl_reckonx0 (a0 : List STable) (a1 : List Int) (a2 : List SNode) (v3 : Bool) : Option (Int × Int) :=
  (bif v3 then
  some ((-1), (-1))
  else (F_impl_guess a0 a1 a2 0 0).bind (fun y4 => some (y4.1, (mmx false y4.2 1000000))))
theorem U_impl_reckon (a0 : List STable) (a1 : List Int) (a2 : List SNode) : Le (joinK ((F_impl_TypedOk a0 a2).bind (fun y1 => (bif (!y1) then
  some (.go true)
  else (F_impl_sizesOk a0 a1).bind (fun y2 => some (.go (!y2))))))
  (fun s => J_impl_reckonx0 a0 a1 a2 s)) (F_impl_reckon a0 a1 a2) := callL_le (tt := tt) (FT := FT) (SP := SP) (j := 44) rfl (by kernel_rfl)
theorem U_impl_TypedOk (a0 : List STable) (a1 : List SNode) : Le ((F_impl_WidthOf a0 a1).bind (fun y1 => some (decide (y1 ≥ 0)))) (F_impl_TypedOk a0 a1) := callL_le (tt := tt) (FT := FT) (SP := SP) (j := 45) rfl (by kernel_rfl)
@[simp] noncomputable def J_impl_WidthOfx0 (a0 : List STable) (a1 : List SNode) (v3 : Bool) : Option Int :=
  (bif v3 then
  some (-1)
  else (F_impl_width a0 a1 0).bind (fun y4 => some y4))
theorem U_impl_WidthOf (a0 : List STable) (a1 : List SNode) : Le (joinK ((F_impl_SchemaOk a0).bind (fun y1 => (bif (!y1) then
  some (.go true)
  else (F_impl_PlanOk a1).bind (fun y2 => some (.go (!y2))))))
  (fun s => J_impl_WidthOfx0 a0 a1 s)) (F_impl_WidthOf a0 a1) := callL_le (tt := tt) (FT := FT) (SP := SP) (j := 46) rfl (by kernel_rfl)
@[simp] noncomputable def J_impl_SchemaOkx1 (v1 : Bool) (v2 : Int) (f0 : (Bool × Int) → Option (Ex Bool Bool)) (v7 : Bool) : Option (Ex Bool Bool) :=
  (bif v7 then
  some (.ret false)
  else f0 (v1, (IntKind.i64.wrap (v2 + 1))))
noncomputable def L_impl_SchemaOkx0 (a0 : List STable) (f0 : (Bool × Int) → Option (Ex Bool Bool)) (v1 : Bool) (v2 : Int) : Option (Ex Bool Bool) :=
  (bif (decide (v2 < (a0.length : Int))) then
  (ix a0 v2).bind (fun z3 => joinK ((F_impl_WordOk z3.1).bind (fun y4 => (bif (!y4) then
  some (.go true)
  else (F_impl_in z3.2.1 1 6).bind (fun y5 => (bif (!y5) then
  some (.go true)
  else (bif (decide (v2 > 0)) then
  (ix a0 (IntKind.i64.wrap (v2 - 1))).bind (fun z6 => some (.go (!(Op.bytesLess z6.1.toList z3.1.toList))))
  else some (.go false)))))))
  (fun s => J_impl_SchemaOkx1 v1 v2 f0 s))
  else some (.go v1))
@[simp] noncomputable def J_impl_SchemaOkx0 (a0 : List STable) (v8 : Bool) : Option Bool :=
  some (decide ((a0.length : Int) ≤ 8))
theorem U_impl_SchemaOk (a0 : List STable) : Le (joinK (loopF (fun f s => L_impl_SchemaOkx0 a0 f s.1 s.2) (false, 0))
  (fun s => J_impl_SchemaOkx0 a0 s)) (F_impl_SchemaOk a0) := callL_le (tt := tt) (FT := FT) (SP := SP) (j := 47) rfl (by kernel_rfl)
@[simp] noncomputable def J_impl_WordOkx2 (v1 : Bool) (v2 : Int) (f0 : (Bool × Int) → Option (Ex Bool Bool)) (v5 : Bool) : Option (Ex Bool Bool) :=
  (bif v5 then
  some (.ret false)
  else f0 (v1, (IntKind.i64.wrap (v2 + 1))))
@[simp] noncomputable def J_impl_WordOkx1 (v1 : Bool) (v2 : Int) (z3 : Int) (f0 : (Bool × Int) → Option (Ex Bool Bool)) (v4 : Bool) : Option (Ex Bool Bool) :=
  joinK ((bif (!v4) then
  (bif (v2 == 0) then
  some (.go true)
  else (bif (decide (z3 < 48)) then
  some (.go true)
  else some (.go (decide (z3 > 57)))))
  else some (.go false)))
  (fun s => J_impl_WordOkx2 v1 v2 f0 s)
noncomputable def L_impl_WordOkx0 (a0 : ByteArray) (f0 : (Bool × Int) → Option (Ex Bool Bool)) (v1 : Bool) (v2 : Int) : Option (Ex Bool Bool) :=
  (bif (decide (v2 < (a0.size : Int))) then
  (bix a0 v2).bind (fun z3 => joinK ((bif (decide (z3 ≥ 97)) then
  some (.go (decide (z3 ≤ 122)))
  else some (.go false)))
  (fun s => J_impl_WordOkx1 v1 v2 z3 f0 s))
  else some (.go v1))
@[simp] noncomputable def J_impl_WordOkx0 (a0 : ByteArray) (v6 : Bool) : Option Bool :=
  (F_impl_in (a0.size : Int) 1 12).bind (fun y7 => some y7)
theorem U_impl_WordOk (a0 : ByteArray) : Le (joinK (loopF (fun f s => L_impl_WordOkx0 a0 f s.1 s.2) (false, 0))
  (fun s => J_impl_WordOkx0 a0 s)) (F_impl_WordOk a0) := callL_le (tt := tt) (FT := FT) (SP := SP) (j := 48) rfl (by kernel_rfl)
@[simp] noncomputable def J_impl_inx0 (v1 : Bool) : Option Bool :=
  some v1
theorem U_impl_in (a0 : Int) (a1 : Int) (a2 : Int) : Le (joinK ((bif (decide (a0 ≥ a1)) then
  some (.go (decide (a0 ≤ a2)))
  else some (.go false)))
  (fun s => J_impl_inx0 s)) (F_impl_in a0 a1 a2) := callL_le (tt := tt) (FT := FT) (SP := SP) (j := 49) rfl (by kernel_rfl)
@[simp] noncomputable def J_impl_PlanOkx0 (a0 : List SNode) (v3 : Bool) : Option Bool :=
  (bif v3 then
  some false
  else (F_impl_end a0 0 1).bind (fun y4 => some (y4 == (a0.length : Int))))
theorem U_impl_PlanOk (a0 : List SNode) : Le (joinK ((F_impl_in (a0.length : Int) 1 40).bind (fun y1 => (bif (!y1) then
  some (.go true)
  else (F_slices_ContainsFunc_LimplNode_impl_PlanOk_1 a0).bind (fun y2 => some (.go y2)))))
  (fun s => J_impl_PlanOkx0 a0 s)) (F_impl_PlanOk a0) := callL_le (tt := tt) (FT := FT) (SP := SP) (j := 50) rfl (by kernel_rfl)
theorem U_slices_ContainsFunc_LimplNode_impl_PlanOk_1 (a0 : List SNode) : Le ((F_slices_IndexFunc_LimplNode_impl_PlanOk_1 a0).bind (fun y1 => some (decide (y1 ≥ 0)))) (F_slices_ContainsFunc_LimplNode_impl_PlanOk_1 a0) := callL_le (tt := tt) (FT := FT) (SP := SP) (j := 51) rfl (by kernel_rfl)
noncomputable def L_slices_IndexFunc_LimplNode_impl_PlanOk_1x0 (a0 : List SNode) (f0 : (Int × Int) → Option (Ex Int Int)) (v1 : Int) (v2 : Int) : Option (Ex Int Int) :=
  (bif (decide (v2 < (a0.length : Int))) then
  (ix a0 v2).bind (fun z3 => (F_impl_PlanOk_1 z3).bind (fun y4 => (bif y4 then
  some (.ret v2)
  else f0 (v1, (IntKind.i64.wrap (v2 + 1))))))
  else some (.go v1))
@[simp] noncomputable def J_slices_IndexFunc_LimplNode_impl_PlanOk_1x0 (v5 : Int) : Option Int :=
  some (-1)
theorem U_slices_IndexFunc_LimplNode_impl_PlanOk_1 (a0 : List SNode) : Le (joinK (loopF (fun f s => L_slices_IndexFunc_LimplNode_impl_PlanOk_1x0 a0 f s.1 s.2) (0, 0))
  (fun s => J_slices_IndexFunc_LimplNode_impl_PlanOk_1x0 s)) (F_slices_IndexFunc_LimplNode_impl_PlanOk_1 a0) := callL_le (tt := tt) (FT := FT) (SP := SP) (j := 52) rfl (by kernel_rfl)
theorem U_impl_PlanOk_1 (a0 : SNode) : Le ((F_impl_NodeOk (a0.1, (a0.2.1, (a0.2.2.1, (a0.2.2.2.1, (a0.2.2.2.2.1, (a0.2.2.2.2.2.1, (a0.2.2.2.2.2.2.1, ())))))))).bind (fun y1 => some (!y1))) (F_impl_PlanOk_1 a0) := callL_le (tt := tt) (FT := FT) (SP := SP) (j := 53) rfl (by kernel_rfl)
@[simp] noncomputable def J_impl_NodeOkx2 (a0 : SNode) (v7 : Bool) : Option (Ex Bool (Int × ByteArray × Int × Int × Int × Bool × (List Int) × Bool)) :=
  some (.go (0, a0.2.1, 0, 0, 0, false, a0.2.2.2.2.2.2.1, v7))
@[simp] noncomputable def J_impl_NodeOkx1 (a0 : SNode) (v4 : Bool) : Option (Ex Bool (Int × ByteArray × Int × Int × Int × Bool × (List Int) × Bool)) :=
  joinK ((bif (a0.2.2.2.1 == 3) then
  (bif v4 then
  (bif (a0.2.2.2.2.1 == 0) then
  some (.go (!a0.2.2.2.2.2.1))
  else some (.go false))
  else some (.go false))
  else (bif a0.2.2.2.2.2.1 then
  (bif v4 then
  (F_impl_isSlot a0.2.2.2.2.1).bind (fun y5 => some (.go y5))
  else some (.go false))
  else (bif v4 then
  (F_impl_isNum a0.2.2.2.2.1).bind (fun y6 => some (.go y6))
  else some (.go false)))))
  (fun s => J_impl_NodeOkx2 a0 s)
@[simp] noncomputable def J_impl_NodeOkx3 (a0 : SNode) (v10 : Bool) : Option (Ex Bool (Int × ByteArray × Int × Int × Int × Bool × (List Int) × Bool)) :=
  some (.go (0, a0.2.1, a0.2.2.1, a0.2.2.2.1, a0.2.2.2.2.1, a0.2.2.2.2.2.1, [], v10))
@[simp] noncomputable def J_impl_NodeOkx4 (a0 : SNode) (v13 : Bool) : Option (Ex Bool (Int × ByteArray × Int × Int × Int × Bool × (List Int) × Bool)) :=
  some (.go (0, a0.2.1, 0, a0.2.2.2.1, 0, a0.2.2.2.2.2.1, a0.2.2.2.2.2.2.1, v13))
@[simp] noncomputable def J_impl_NodeOkx5 (a0 : SNode) (v17 : Bool) : Option (Ex Bool (Int × ByteArray × Int × Int × Int × Bool × (List Int) × Bool)) :=
  some (.go (0, a0.2.1, a0.2.2.1, a0.2.2.2.1, 0, false, a0.2.2.2.2.2.2.1, v17))
@[simp] noncomputable def J_impl_NodeOkx6 (a0 : SNode) (v18 : Bool) : Option (Ex Bool (Int × ByteArray × Int × Int × Int × Bool × (List Int) × Bool)) :=
  (bif v18 then
  some (.go (0, a0.2.1, a0.2.2.1, a0.2.2.2.1, a0.2.2.2.2.1, a0.2.2.2.2.2.1, a0.2.2.2.2.2.2.1, true))
  else some (.go (0, a0.2.1, a0.2.2.1, a0.2.2.2.1, a0.2.2.2.2.1, a0.2.2.2.2.2.1, a0.2.2.2.2.2.2.1, false)))
@[simp] noncomputable def J_impl_NodeOkx7 (v28 : Bool) : Option Bool :=
  some v28
@[simp] noncomputable def J_impl_NodeOkx0 (v19 : Int) (v20 : ByteArray) (v21 : Int) (v22 : Int) (v23 : Int) (v24 : Bool) (v25 : List Int) (v26 : Bool) : Option Bool :=
  joinK ((bif v26 then
  (F_impl_sameNode (v19, (v20, (v21, (v22, (v23, (v24, (v25, ()))))))) (0, (ByteArray.empty, (0, (0, (0, (false, ([], ())))))))).bind (fun y27 => some (.go y27))
  else some (.go false)))
  (fun s => J_impl_NodeOkx7 s)
theorem U_impl_NodeOk (a0 : SNode) : Le (joinK ((bif (a0.1 == 0) then
  (F_impl_WordOk a0.2.1).bind (fun y1 => some (.go (0, ByteArray.empty, a0.2.2.1, a0.2.2.2.1, a0.2.2.2.2.1, a0.2.2.2.2.2.1, a0.2.2.2.2.2.2.1, y1)))
  else (bif (a0.1 == 1) then
  joinK ((F_impl_isCol a0.2.2.1).bind (fun y2 => (bif y2 then
  (F_impl_in a0.2.2.2.1 0 3).bind (fun y3 => some (.go y3))
  else some (.go false))))
  (fun s => J_impl_NodeOkx1 a0 s)
  else (bif (a0.1 == 2) then
  joinK ((F_impl_in (a0.2.2.2.2.2.2.1.length : Int) 1 6).bind (fun y8 => (bif y8 then
  (F_slices_ContainsFunc_Lint_impl_NodeOk_1 a0.2.2.2.2.2.2.1).bind (fun y9 => some (.go (!y9)))
  else some (.go false))))
  (fun s => J_impl_NodeOkx3 a0 s)
  else (bif (a0.1 == 3) then
  joinK ((F_impl_isCol a0.2.2.1).bind (fun y11 => (bif y11 then
  (F_impl_isCol a0.2.2.2.2.1).bind (fun y12 => some (.go y12))
  else some (.go false))))
  (fun s => J_impl_NodeOkx4 a0 s)
  else (bif (a0.1 == 5) then
  (F_impl_isCol a0.2.2.1).bind (fun y14 => some (.go (0, a0.2.1, 0, a0.2.2.2.1, a0.2.2.2.2.1, a0.2.2.2.2.2.1, a0.2.2.2.2.2.2.1, y14)))
  else (bif (a0.1 == 6) then
  joinK ((F_impl_in a0.2.2.2.2.1 0 1000000).bind (fun y15 => (bif y15 then
  (bif (!a0.2.2.2.2.2.1) then
  some (.go true)
  else (F_impl_isSlot a0.2.2.2.2.1).bind (fun y16 => some (.go y16)))
  else some (.go false))))
  (fun s => J_impl_NodeOkx5 a0 s)
  else joinK ((bif (a0.1 == 4) then
  some (.go true)
  else some (.go (a0.1 == 7))))
  (fun s => J_impl_NodeOkx6 a0 s))))))))
  (fun s => J_impl_NodeOkx0 s.1 s.2.1 s.2.2.1 s.2.2.2.1 s.2.2.2.2.1 s.2.2.2.2.2.1 s.2.2.2.2.2.2.1 s.2.2.2.2.2.2.2)) (F_impl_NodeOk a0) := callL_le (tt := tt) (FT := FT) (SP := SP) (j := 54) rfl (by kernel_rfl)
theorem U_impl_isCol (a0 : Int) : Le ((F_impl_in a0 0 63).bind (fun y1 => some y1)) (F_impl_isCol a0) := callL_le (tt := tt) (FT := FT) (SP := SP) (j := 55) rfl (by kernel_rfl)
theorem U_impl_isSlot (a0 : Int) : Le ((F_impl_in a0 0 39).bind (fun y1 => some y1)) (F_impl_isSlot a0) := callL_le (tt := tt) (FT := FT) (SP := SP) (j := 56) rfl (by kernel_rfl)
theorem U_impl_isNum (a0 : Int) : Le ((F_impl_in a0 (-1000000) 1000000).bind (fun y1 => some y1)) (F_impl_isNum a0) := callL_le (tt := tt) (FT := FT) (SP := SP) (j := 57) rfl (by kernel_rfl)
theorem U_slices_ContainsFunc_Lint_impl_NodeOk_1 (a0 : List Int) : Le ((F_slices_IndexFunc_Lint_impl_NodeOk_1 a0).bind (fun y1 => some (decide (y1 ≥ 0)))) (F_slices_ContainsFunc_Lint_impl_NodeOk_1 a0) := callL_le (tt := tt) (FT := FT) (SP := SP) (j := 58) rfl (by kernel_rfl)
noncomputable def L_slices_IndexFunc_Lint_impl_NodeOk_1x0 (a0 : List Int) (f0 : (Int × Int) → Option (Ex Int Int)) (v1 : Int) (v2 : Int) : Option (Ex Int Int) :=
  (bif (decide (v2 < (a0.length : Int))) then
  (ix a0 v2).bind (fun z3 => (F_impl_NodeOk_1 z3).bind (fun y4 => (bif y4 then
  some (.ret v2)
  else f0 (v1, (IntKind.i64.wrap (v2 + 1))))))
  else some (.go v1))
@[simp] noncomputable def J_slices_IndexFunc_Lint_impl_NodeOk_1x0 (v5 : Int) : Option Int :=
  some (-1)
theorem U_slices_IndexFunc_Lint_impl_NodeOk_1 (a0 : List Int) : Le (joinK (loopF (fun f s => L_slices_IndexFunc_Lint_impl_NodeOk_1x0 a0 f s.1 s.2) (0, 0))
  (fun s => J_slices_IndexFunc_Lint_impl_NodeOk_1x0 s)) (F_slices_IndexFunc_Lint_impl_NodeOk_1 a0) := callL_le (tt := tt) (FT := FT) (SP := SP) (j := 59) rfl (by kernel_rfl)
theorem U_impl_NodeOk_1 (a0 : Int) : Le ((F_impl_isCol a0).bind (fun y1 => some (!y1))) (F_impl_NodeOk_1 a0) := callL_le (tt := tt) (FT := FT) (SP := SP) (j := 60) rfl (by kernel_rfl)
@[simp] noncomputable def J_impl_sameNodex0 (v2 : Bool) : Option Bool :=
  some v2
theorem U_impl_sameNode (a0 : SNode) (a1 : SNode) : Le (joinK ((bif (a0.1 == a1.1) then
  (bif (a0.2.1.toList == a1.2.1.toList) then
  (bif (a0.2.2.1 == a1.2.2.1) then
  (bif (a0.2.2.2.1 == a1.2.2.2.1) then
  (bif (a0.2.2.2.2.1 == a1.2.2.2.2.1) then
  (bif (a0.2.2.2.2.2.1 == a1.2.2.2.2.2.1) then
  (F_slices_Equal_Lint a0.2.2.2.2.2.2.1 a1.2.2.2.2.2.2.1).bind (fun y1 => some (.go y1))
  else some (.go false))
  else some (.go false))
  else some (.go false))
  else some (.go false))
  else some (.go false))
  else some (.go false)))
  (fun s => J_impl_sameNodex0 s)) (F_impl_sameNode a0 a1) := callL_le (tt := tt) (FT := FT) (SP := SP) (j := 61) rfl (by kernel_rfl)
noncomputable def L_slices_Equal_Lintx0 (a0 : List Int) (a1 : List Int) (f0 : (Bool × Int) → Option (Ex Bool Bool)) (v1 : Bool) (v2 : Int) : Option (Ex Bool Bool) :=
  (bif (decide (v2 < (a0.length : Int))) then
  (ix a0 v2).bind (fun z3 => (ix a1 v2).bind (fun z4 => (bif (z3 != z4) then
  some (.ret false)
  else f0 (v1, (IntKind.i64.wrap (v2 + 1))))))
  else some (.go v1))
@[simp] noncomputable def J_slices_Equal_Lintx0 (v5 : Bool) : Option Bool :=
  some true
theorem U_slices_Equal_Lint (a0 : List Int) (a1 : List Int) : Le ((bif ((a0.length : Int) != (a1.length : Int)) then
  some false
  else joinK (loopF (fun f s => L_slices_Equal_Lintx0 a0 a1 f s.1 s.2) (false, 0))
  (fun s => J_slices_Equal_Lintx0 s))) (F_slices_Equal_Lint a0 a1) := callL_le (tt := tt) (FT := FT) (SP := SP) (j := 62) rfl (by kernel_rfl)
noncomputable def L_impl_endx0 (a0 : List SNode) (a2 : Int) (y3 : Int) (f0 : (Int × Int × Int) → Option (Ex Int (Int × Int))) (v4 : Int) (v5 : Int) (v6 : Int) : Option (Ex Int (Int × Int)) :=
  (bif (decide (v6 < y3)) then
  (F_impl_end a0 v5 (IntKind.i64.wrap (a2 + 1))).bind (fun y7 => (bif (decide (y7 < 0)) then
  some (.ret (-1))
  else f0 (v4, y7, (IntKind.i64.wrap (v6 + 1)))))
  else some (.go (v4, v5)))
@[simp] noncomputable def J_impl_endx1 (v8 : Int) (v9 : Int) : Option Int :=
  some v9
@[simp] noncomputable def J_impl_endx0 (a0 : List SNode) (a1 : Int) (a2 : Int) (v1 : Bool) : Option Int :=
  (bif v1 then
  some (-1)
  else joinK ((ix a0 a1).bind (fun z2 => (F_impl_ArityOf z2.1).bind (fun y3 => loopF (fun f s => L_impl_endx0 a0 a2 y3 f s.1 s.2.1 s.2.2) (0, (IntKind.i64.wrap (a1 + 1)), 0))))
  (fun s => J_impl_endx1 s.1 s.2))
theorem U_impl_end (a0 : List SNode) (a1 : Int) (a2 : Int) : Le (joinK ((bif (decide (a1 ≥ (a0.length : Int))) then
  some (.go true)
  else some (.go (decide (a2 > 10)))))
  (fun s => J_impl_endx0 a0 a1 a2 s)) (F_impl_end a0 a1 a2) := callL_le (tt := tt) (FT := FT) (SP := SP) (j := 63) rfl (by kernel_rfl)
@[simp] noncomputable def J_impl_ArityOfx1 (v2 : Bool) : Option Int :=
  (bif v2 then
  some 1
  else some (-1))
@[simp] noncomputable def J_impl_ArityOfx0 (a0 : Int) (v1 : Bool) : Option Int :=
  (bif v1 then
  some 2
  else joinK ((bif (a0 == 1) then
  some (.go true)
  else (bif (a0 == 2) then
  some (.go true)
  else (bif (a0 == 5) then
  some (.go true)
  else (bif (a0 == 6) then
  some (.go true)
  else some (.go (a0 == 7)))))))
  (fun s => J_impl_ArityOfx1 s))
theorem U_impl_ArityOf (a0 : Int) : Le ((bif (a0 == 0) then
  some 0
  else joinK ((bif (a0 == 3) then
  some (.go true)
  else some (.go (a0 == 4))))
  (fun s => J_impl_ArityOfx0 a0 s))) (F_impl_ArityOf a0) := callL_le (tt := tt) (FT := FT) (SP := SP) (j := 64) rfl (by kernel_rfl)
noncomputable def L_impl_widthx0 (a0 : List STable) (a1 : List SNode) (y1 : List Int) (f0 : (Int × (List Int) × Int) → Option (Ex Int (Int × (List Int)))) (v2 : Int) (v3 : List Int) (v4 : Int) : Option (Ex Int (Int × (List Int))) :=
  (bif (decide (v4 < (y1.length : Int))) then
  (ix y1 v4).bind (fun z5 => (F_impl_width a0 a1 z5).bind (fun y6 => (bif (decide (y6 < 0)) then
  some (.ret (-1))
  else (apx v3 ([y6])).bind (fun z7 => f0 (v2, z7, (IntKind.i64.wrap (v4 + 1)))))))
  else some (.go (v2, v3)))
@[simp] noncomputable def J_impl_widthx3 (v9 : List Int) (v21 : Bool) : Option (Ex Int Int) :=
  (bif v21 then
  some (.ret (-1))
  else (ix v9 0).bind (fun z22 => (ix v9 1).bind (fun z23 => some (.ret (IntKind.i64.wrap (z22 + z23))))))
@[simp] noncomputable def J_impl_widthx2 (v8 : Int) (v9 : List Int) (z10 : SNode) (v13 : Bool) : Option (Ex Int Int) :=
  (bif v13 then
  (ix v9 0).bind (fun z14 => (bif (decide (z10.2.2.1 ≥ z14)) then
  some (.ret (-1))
  else some (.go v8)))
  else (bif (z10.1 == 2) then
  (F_slices_Max_Lint z10.2.2.2.2.2.2.1).bind (fun y15 => (ix v9 0).bind (fun z16 => (bif (decide (y15 ≥ z16)) then
  some (.ret (-1))
  else some (.ret (z10.2.2.2.2.2.2.1.length : Int)))))
  else (bif (z10.1 == 3) then
  joinK ((ix v9 0).bind (fun z17 => (bif (decide (z10.2.2.1 ≥ z17)) then
  some (.go true)
  else (ix v9 1).bind (fun z18 => (bif (decide (z10.2.2.2.2.1 ≥ z18)) then
  some (.go true)
  else (ix v9 0).bind (fun z19 => (ix v9 1).bind (fun z20 => some (.go (decide ((IntKind.i64.wrap (z19 + z20)) > 64))))))))))
  (fun s => J_impl_widthx3 v9 s)
  else (bif (z10.1 == 4) then
  (ix v9 0).bind (fun z24 => (ix v9 1).bind (fun z25 => (bif (z24 != z25) then
  some (.ret (-1))
  else some (.go v8))))
  else some (.go v8)))))
@[simp] noncomputable def J_impl_widthx1 (v9 : List Int) (v26 : Int) : Option Int :=
  (ix v9 0).bind (fun z27 => some z27)
@[simp] noncomputable def J_impl_widthx0 (a0 : List STable) (a1 : List SNode) (a2 : Int) (v8 : Int) (v9 : List Int) : Option Int :=
  (ix a1 a2).bind (fun z10 => joinK ((bif (z10.1 == 0) then
  (F_impl_tableAt a0 z10.2.1).bind (fun y11 => (bif (decide (y11 < 0)) then
  some (.ret (-1))
  else (ix a0 y11).bind (fun z12 => some (.ret z12.2.1))))
  else joinK ((bif (z10.1 == 1) then
  some (.go true)
  else some (.go (z10.1 == 5))))
  (fun s => J_impl_widthx2 v8 v9 z10 s)))
  (fun s => J_impl_widthx1 v9 s))
theorem U_impl_width (a0 : List STable) (a1 : List SNode) (a2 : Int) : Le (joinK ((F_impl_children a1 a2).bind (fun y1 => loopF (fun f s => L_impl_widthx0 a0 a1 y1 f s.1 s.2.1 s.2.2) (0, [], 0)))
  (fun s => J_impl_widthx0 a0 a1 a2 s.1 s.2)) (F_impl_width a0 a1 a2) := callL_le (tt := tt) (FT := FT) (SP := SP) (j := 65) rfl (by kernel_rfl)
noncomputable def L_impl_childrenx0 (a0 : List SNode) (y2 : Int) (f0 : ((List Int) × Int × Int) → Option (Ex (List Int) (List Int))) (v3 : List Int) (v4 : Int) (v5 : Int) : Option (Ex (List Int) (List Int)) :=
  (bif (decide (v5 < y2)) then
  (apx v3 ([v4])).bind (fun z6 => (F_impl_end a0 v4 1).bind (fun y7 => f0 (z6, y7, (IntKind.i64.wrap (v5 + 1)))))
  else some (.go v3))
@[simp] noncomputable def J_impl_childrenx0 (v8 : List Int) : Option (List Int) :=
  some v8
theorem U_impl_children (a0 : List SNode) (a1 : Int) : Le (joinK ((ix a0 a1).bind (fun z1 => (F_impl_ArityOf z1.1).bind (fun y2 => loopF (fun f s => L_impl_childrenx0 a0 y2 f s.1 s.2.1 s.2.2) ([], (IntKind.i64.wrap (a1 + 1)), 0))))
  (fun s => J_impl_childrenx0 s)) (F_impl_children a0 a1) := callL_le (tt := tt) (FT := FT) (SP := SP) (j := 66) rfl (by kernel_rfl)
theorem U_impl_tableAt (a0 : List STable) (a1 : ByteArray) : Le ((F_slices_IndexFunc_LimplTable_impl_tableAt_1 a0 a1).bind (fun y1 => some y1.1)) (F_impl_tableAt a0 a1) := callL_le (tt := tt) (FT := FT) (SP := SP) (j := 67) rfl (by kernel_rfl)
noncomputable def L_slices_IndexFunc_LimplTable_impl_tableAt_1x0 (a0 : List STable) (f0 : (Int × Int × ByteArray) → Option (Ex (Int × ByteArray) (Int × ByteArray))) (v1 : Int) (v2 : Int) (v3 : ByteArray) : Option (Ex (Int × ByteArray) (Int × ByteArray)) :=
  (bif (decide (v2 < (a0.length : Int))) then
  (ix a0 v2).bind (fun z4 => (F_impl_tableAt_1 z4 v3).bind (fun y5 => (bif y5.1 then
  some (.ret (v2, y5.2))
  else f0 (v1, (IntKind.i64.wrap (v2 + 1)), y5.2))))
  else some (.go (v1, v3)))
@[simp] noncomputable def J_slices_IndexFunc_LimplTable_impl_tableAt_1x0 (v6 : Int) (v7 : ByteArray) : Option (Int × ByteArray) :=
  some ((-1), v7)
theorem U_slices_IndexFunc_LimplTable_impl_tableAt_1 (a0 : List STable) (a1x0x0 : ByteArray) : Le (joinK (loopF (fun f s => L_slices_IndexFunc_LimplTable_impl_tableAt_1x0 a0 f s.1 s.2.1 s.2.2) (0, 0, a1x0x0))
  (fun s => J_slices_IndexFunc_LimplTable_impl_tableAt_1x0 s.1 s.2)) (F_slices_IndexFunc_LimplTable_impl_tableAt_1 a0 a1x0x0) := callL_le (tt := tt) (FT := FT) (SP := SP) (j := 68) rfl (by kernel_rfl)
theorem U_impl_tableAt_1 (a0 : STable) (c0x0 : ByteArray) : Le (some ((a0.1.toList == c0x0.toList), c0x0)) (F_impl_tableAt_1 a0 c0x0) := callL_le (tt := tt) (FT := FT) (SP := SP) (j := 69) rfl (by kernel_rfl)
noncomputable def L_slices_Max_Lintx0 (a0 : List Int) (f0 : (Int × Int) → Option (Ex Int Int)) (v2 : Int) (v3 : Int) : Option (Ex Int Int) :=
  (bif (decide (v3 < (a0.length : Int))) then
  (ix a0 v3).bind (fun z4 => f0 ((mmx true v2 z4), (IntKind.i64.wrap (v3 + 1))))
  else some (.go v2))
@[simp] noncomputable def J_slices_Max_Lintx1 (v5 : Int) : Option Int :=
  some v5
@[simp] noncomputable def J_slices_Max_Lintx0 (a0 : List Int) : Option Int :=
  (ix a0 0).bind (fun z1 => joinK (loopF (fun f s => L_slices_Max_Lintx0 a0 f s.1 s.2) (z1, 1))
  (fun s => J_slices_Max_Lintx1 s))
theorem U_slices_Max_Lint (a0 : List Int) : Le (joinK ((bif (decide ((a0.length : Int) < 1)) then
  none
  else some (.go ())))
  (fun _ => J_slices_Max_Lintx0 a0)) (F_slices_Max_Lint a0) := callL_le (tt := tt) (FT := FT) (SP := SP) (j := 70) rfl (by kernel_rfl)
@[simp] noncomputable def J_impl_sizesOkx0 (v2 : Bool) : Option Bool :=
  some v2
theorem U_impl_sizesOk (a0 : List STable) (a1 : List Int) : Le (joinK ((bif ((a1.length : Int) == (a0.length : Int)) then
  (F_slices_ContainsFunc_Lint_impl_sizesOk_1 a1).bind (fun y1 => some (.go (!y1)))
  else some (.go false)))
  (fun s => J_impl_sizesOkx0 s)) (F_impl_sizesOk a0 a1) := callL_le (tt := tt) (FT := FT) (SP := SP) (j := 71) rfl (by kernel_rfl)
theorem U_slices_ContainsFunc_Lint_impl_sizesOk_1 (a0 : List Int) : Le ((F_slices_IndexFunc_Lint_impl_sizesOk_1 a0).bind (fun y1 => some (decide (y1 ≥ 0)))) (F_slices_ContainsFunc_Lint_impl_sizesOk_1 a0) := callL_le (tt := tt) (FT := FT) (SP := SP) (j := 72) rfl (by kernel_rfl)
noncomputable def L_slices_IndexFunc_Lint_impl_sizesOk_1x0 (a0 : List Int) (f0 : (Int × Int) → Option (Ex Int Int)) (v1 : Int) (v2 : Int) : Option (Ex Int Int) :=
  (bif (decide (v2 < (a0.length : Int))) then
  (ix a0 v2).bind (fun z3 => (F_impl_sizesOk_1 z3).bind (fun y4 => (bif y4 then
  some (.ret v2)
  else f0 (v1, (IntKind.i64.wrap (v2 + 1))))))
  else some (.go v1))
@[simp] noncomputable def J_slices_IndexFunc_Lint_impl_sizesOk_1x0 (v5 : Int) : Option Int :=
  some (-1)
theorem U_slices_IndexFunc_Lint_impl_sizesOk_1 (a0 : List Int) : Le (joinK (loopF (fun f s => L_slices_IndexFunc_Lint_impl_sizesOk_1x0 a0 f s.1 s.2) (0, 0))
  (fun s => J_slices_IndexFunc_Lint_impl_sizesOk_1x0 s)) (F_slices_IndexFunc_Lint_impl_sizesOk_1 a0) := callL_le (tt := tt) (FT := FT) (SP := SP) (j := 73) rfl (by kernel_rfl)
theorem U_impl_sizesOk_1 (a0 : Int) : Le ((F_impl_in a0 0 1000).bind (fun y1 => some (!y1))) (F_impl_sizesOk_1 a0) := callL_le (tt := tt) (FT := FT) (SP := SP) (j := 74) rfl (by kernel_rfl)
noncomputable def L_impl_guessx0 (a0 : List STable) (a1 : List Int) (a2 : List SNode) (y1 : List Int) (f0 : ((List Int) × Int × Int) → Option (Ex (Int × Int) ((List Int) × Int))) (v2 : List Int) (v3 : Int) (v4 : Int) : Option (Ex (Int × Int) ((List Int) × Int)) :=
  (bif (decide (v3 < (y1.length : Int))) then
  (ix y1 v3).bind (fun z5 => (F_impl_guess a0 a1 a2 z5 v4).bind (fun y6 => (apx v2 ([y6.1])).bind (fun z7 => f0 (z7, (IntKind.i64.wrap (v3 + 1)), y6.2))))
  else some (.go (v2, v4)))
@[simp] noncomputable def J_impl_guessx2 (v8 : List Int) (v20 : Int) : Option (Ex (Int × Int) Int) :=
  (ix v8 0).bind (fun z21 => some (.go (mmx false z21 v20)))
@[simp] noncomputable def J_impl_guessx1 (v9 : Int) (v23 : Int) : Option (Int × Int) :=
  some ((mmx false v23 1000000), (IntKind.i64.wrap (v9 + (mmx false v23 1000000))))
@[simp] noncomputable def J_impl_guessx0 (a0 : List STable) (a1 : List Int) (a2 : List SNode) (a3 : Int) (v8 : List Int) (v9 : Int) : Option (Int × Int) :=
  (ix a2 a3).bind (fun z10 => joinK ((bif (z10.1 == 0) then
  (F_impl_tableAt a0 z10.2.1).bind (fun y11 => (ix a1 y11).bind (fun z12 => some (.go z12)))
  else (bif (z10.1 == 1) then
  (ix v8 0).bind (fun z13 => (quox (IntKind.i64.wrap (z13 + 1)) 2).bind (fun z14 => some (.go z14)))
  else (bif (z10.1 == 3) then
  (ix v8 0).bind (fun z15 => (ix v8 1).bind (fun z16 => (quox (IntKind.i64.wrap ((IntKind.i64.wrap (z15 * z16)) + 3)) 4).bind (fun z17 => some (.go z17))))
  else (bif (z10.1 == 4) then
  (ix v8 0).bind (fun z18 => (ix v8 1).bind (fun z19 => some (.go (IntKind.i64.wrap (z18 + z19)))))
  else (bif (z10.1 == 6) then
  joinK ((bif z10.2.2.2.2.2.1 then
  some (.go 10)
  else some (.go z10.2.2.2.2.1)))
  (fun s => J_impl_guessx2 v8 s)
  else (ix v8 0).bind (fun z22 => some (.go z22))))))))
  (fun s => J_impl_guessx1 v9 s))
theorem U_impl_guess (a0 : List STable) (a1 : List Int) (a2 : List SNode) (a3 : Int) (a4x0 : Int) : Le (joinK ((F_impl_children a2 a3).bind (fun y1 => loopF (fun f s => L_impl_guessx0 a0 a1 a2 y1 f s.1 s.2.1 s.2.2) ([], 0, a4x0)))
  (fun s => J_impl_guessx0 a0 a1 a2 a3 s.1 s.2)) (F_impl_guess a0 a1 a2 a3 a4x0) := callL_le (tt := tt) (FT := FT) (SP := SP) (j := 75) rfl (by kernel_rfl)
@[simp] noncomputable def J_impl_StepsAtx2 (v5 : Int) (f1 : ((List SStep) × Int) → Option (Ex (Ex (List SStep) (List SStep)) (List SStep))) (v8 : List SStep) : Option (Ex (Ex (List SStep) (List SStep)) (List SStep)) :=
  f1 (v8, (IntKind.i64.wrap (v5 + 1)))
noncomputable def L_impl_StepsAtx1 (a0 : List STable) (a1 : List SNode) (v3 : Int) (f1 : ((List SStep) × Int) → Option (Ex (Ex (List SStep) (List SStep)) (List SStep))) (v4 : List SStep) (v5 : Int) : Option (Ex (Ex (List SStep) (List SStep)) (List SStep)) :=
  (bif (decide (v5 < 12)) then
  joinK ((F_impl_apply a0 a1 (v5, (v3, ()))).bind (fun y6 => (bif y6.2 then
  (apx v4 ([(v5, (v3, ()))])).bind (fun z7 => some (.go z7))
  else some (.go v4))))
  (fun s => J_impl_StepsAtx2 v5 f1 s)
  else some (.go v4))
@[simp] noncomputable def J_impl_StepsAtx1 (v3 : Int) (f0 : ((List SStep) × Int) → Option (Ex (List SStep) (List SStep))) (v9 : List SStep) : Option (Ex (List SStep) (List SStep)) :=
  f0 (v9, (IntKind.i64.wrap (v3 + 1)))
noncomputable def L_impl_StepsAtx0 (a0 : List STable) (a1 : List SNode) (f0 : ((List SStep) × Int) → Option (Ex (List SStep) (List SStep))) (v2 : List SStep) (v3 : Int) : Option (Ex (List SStep) (List SStep)) :=
  (bif (decide (v3 < (a1.length : Int))) then
  joinK (loopF (fun f s => L_impl_StepsAtx1 a0 a1 v3 f s.1 s.2) (v2, 0))
  (fun s => J_impl_StepsAtx1 v3 f0 s)
  else some (.go v2))
@[simp] noncomputable def J_impl_StepsAtx0 (v10 : List SStep) : Option (List SStep) :=
  some v10
theorem U_impl_StepsAt (a0 : List STable) (a1 : List SNode) : Le ((F_impl_TypedOk a0 a1).bind (fun y1 => (bif (!y1) then
  some ([])
  else joinK (loopF (fun f s => L_impl_StepsAtx0 a0 a1 f s.1 s.2) ([], 0))
  (fun s => J_impl_StepsAtx0 s)))) (F_impl_StepsAt a0 a1) := callL_le (tt := tt) (FT := FT) (SP := SP) (j := 76) rfl (by kernel_rfl)
theorem U_impl_apply (a0 : List STable) (a1 : List SNode) (a2 : SStep) : Le ((F_impl_in a2.2.1 0 (IntKind.i64.wrap ((a1.length : Int) - 1))).bind (fun y1 => (bif (!y1) then
  (F_impl_own a1).bind (fun y2 => some (y2, false))
  else (F_impl_turned a0 a1 (a2.1, (a2.2.1, ()))).bind (fun y3 => (bif (!y3.2) then
  (F_impl_own a1).bind (fun y4 => some (y4, false))
  else (slx a1 0 a2.2.1).bind (fun z5 => (F_impl_end a1 a2.2.1 1).bind (fun y6 => (slx a1 y6 (a1.length : Int)).bind (fun z7 => (F_slices_Concat_LimplNode ([z5, y3.1, z7])).bind (fun y8 => (F_impl_own y8).bind (fun y9 => (F_impl_PlanOk y9).bind (fun y10 => (bif (!y10) then
  (F_impl_own a1).bind (fun y11 => some (y11, false))
  else some (y9, true))))))))))))) (F_impl_apply a0 a1 a2) := callL_le (tt := tt) (FT := FT) (SP := SP) (j := 77) rfl (by kernel_rfl)
@[simp] noncomputable def J_impl_turnedx2 (z5 : SNode) (z6 : SNode) (z9 : List SNode) (v10 : Bool) : Option (Ex ((List SNode) × Bool) ((List SNode) × Bool × (List SNode))) :=
  (bif v10 then
  some (.ret ([], false))
  else (F_slices_Concat_LimplNode ([[(z5.1, (z5.2.1, (z5.2.2.1, (z5.2.2.2.1, ((mmx false z5.2.2.2.2.1 z6.2.2.2.2.1), (z5.2.2.2.2.2.1, (z5.2.2.2.2.2.2.1, ())))))))], z9])).bind (fun y11 => some (.ret (y11, true))))
noncomputable def L_impl_turnedx0 (z5 : SNode) (z6 : SNode) (f0 : ((List Int) × Int) → Option (Ex (Ex ((List SNode) × Bool) ((List SNode) × Bool × (List SNode))) (List Int))) (v32 : List Int) (v33 : Int) : Option (Ex (Ex ((List SNode) × Bool) ((List SNode) × Bool × (List SNode))) (List Int)) :=
  (bif (decide (v33 < (z5.2.2.2.2.2.2.1.length : Int))) then
  (ix z5.2.2.2.2.2.2.1 v33).bind (fun z34 => (ix z6.2.2.2.2.2.2.1 z34).bind (fun z35 => (apx v32 ([z35])).bind (fun z36 => f0 (z36, (IntKind.i64.wrap (v33 + 1))))))
  else some (.go v32))
@[simp] noncomputable def J_impl_turnedx4 (z6 : SNode) (z9 : List SNode) (v37 : List Int) : Option (Ex ((List SNode) × Bool) ((List SNode) × Bool × (List SNode))) :=
  (F_slices_Concat_LimplNode ([[(z6.1, (z6.2.1, (z6.2.2.1, (z6.2.2.2.1, (z6.2.2.2.2.1, (z6.2.2.2.2.2.1, (v37, ())))))))], z9])).bind (fun y38 => some (.ret (y38, true)))
@[simp] noncomputable def J_impl_turnedx3 (a0 : List STable) (a1 : List SNode) (a2 : SStep) (z5 : SNode) (z6 : SNode) (y7 : List Int) (y8 : Int) (z9 : List SNode) (v20 : Bool) : Option (Ex ((List SNode) × Bool) ((List SNode) × Bool × (List SNode))) :=
  (bif v20 then
  (ix y7 0).bind (fun z21 => (F_impl_width a0 a1 z21).bind (fun y22 => (bif (a2.1 == 5) then
  (ix y7 0).bind (fun z23 => (slx a1 z23 y8).bind (fun z24 => (F_slices_Concat_LimplNode ([[(z6.1, (z6.2.1, (z6.2.2.1, (z6.2.2.2.1, (z6.2.2.2.2.1, (z6.2.2.2.2.2.1, (z6.2.2.2.2.2.2.1, ())))))))], [(z5.1, (z5.2.1, (z5.2.2.1, (z5.2.2.2.1, (z5.2.2.2.2.1, (z5.2.2.2.2.2.1, (z5.2.2.2.2.2.2.1, ())))))))], z24])).bind (fun y25 => some (.ret (y25, (decide (z5.2.2.1 < y22)))))))
  else (ix y7 0).bind (fun z26 => (ix y7 1).bind (fun z27 => (slx a1 z26 z27).bind (fun z28 => (ix y7 1).bind (fun z29 => (slx a1 z29 y8).bind (fun z30 => (F_slices_Concat_LimplNode ([[(z6.1, (z6.2.1, (z6.2.2.1, (z6.2.2.2.1, (z6.2.2.2.2.1, (z6.2.2.2.2.2.1, (z6.2.2.2.2.2.2.1, ())))))))], z28, [(z5.1, (z5.2.1, ((IntKind.i64.wrap (z5.2.2.1 - y22)), (z5.2.2.2.1, (z5.2.2.2.2.1, (z5.2.2.2.2.2.1, (z5.2.2.2.2.2.2.1, ())))))))], z30])).bind (fun y31 => some (.ret (y31, (decide ((IntKind.i64.wrap (z5.2.2.1 - y22)) ≥ 0)))))))))))))
  else (bif (a2.1 == 8) then
  joinK (loopF (fun f s => L_impl_turnedx0 z5 z6 f s.1 s.2) ([], 0))
  (fun s => J_impl_turnedx4 z6 z9 s)
  else (bif (a2.1 == 10) then
  (ix z6.2.2.2.2.2.2.1 z5.2.2.1).bind (fun z39 => (F_slices_Concat_LimplNode ([[(z6.1, (z6.2.1, (z6.2.2.1, (z6.2.2.2.1, (z6.2.2.2.2.1, (z6.2.2.2.2.2.1, (z6.2.2.2.2.2.2.1, ())))))))], [(z5.1, (z5.2.1, (z39, (z5.2.2.2.1, (z5.2.2.2.2.1, (z5.2.2.2.2.2.1, (z5.2.2.2.2.2.2.1, ())))))))], z9])).bind (fun y40 => some (.ret (y40, true))))
  else some (.go ([], false, [(z6.1, (z6.2.1, (z6.2.2.1, (z6.2.2.2.1, (z6.2.2.2.2.1, (z6.2.2.2.2.2.1, (z6.2.2.2.2.2.2.1, ())))))))])))))
@[simp] noncomputable def J_impl_turnedx1 (z5 : SNode) (z9 : List SNode) (v41 : List SNode) (v42 : Bool) (v43 : List SNode) : Option ((List SNode) × Bool) :=
  (F_slices_Concat_LimplNode ([v43, [(z5.1, (z5.2.1, (z5.2.2.1, (z5.2.2.2.1, (z5.2.2.2.2.1, (z5.2.2.2.2.2.1, (z5.2.2.2.2.2.2.1, ())))))))], z9])).bind (fun y44 => some (y44, true))
@[simp] noncomputable def J_impl_turnedx0 (a0 : List STable) (a1 : List SNode) (a2 : SStep) (v4 : Bool) : Option ((List SNode) × Bool) :=
  (bif v4 then
  some ([], false)
  else (ix a1 a2.2.1).bind (fun z5 => (ix a1 (IntKind.i64.wrap (a2.2.1 + 1))).bind (fun z6 => (F_impl_children a1 (IntKind.i64.wrap (a2.2.1 + 1))).bind (fun y7 => (F_impl_end a1 a2.2.1 1).bind (fun y8 => (slx a1 (IntKind.i64.wrap (a2.2.1 + 2)) y8).bind (fun z9 => joinK ((bif (a2.1 == 2) then
  joinK ((bif z5.2.2.2.2.2.1 then
  some (.go true)
  else some (.go z6.2.2.2.2.2.1)))
  (fun s => J_impl_turnedx2 z5 z6 z9 s)
  else (bif (a2.1 == 3) then
  (F_slices_Concat_LimplNode ([[(z6.1, (z6.2.1, (z6.2.2.1, (z6.2.2.2.1, (z6.2.2.2.2.1, (z6.2.2.2.2.2.1, (z6.2.2.2.2.2.2.1, ())))))))], z9])).bind (fun y12 => some (.ret (y12, (z5.2.2.1 == z6.2.2.1))))
  else (bif (a2.1 == 7) then
  (F_slices_Concat_LimplNode ([[(z6.1, (z6.2.1, (z6.2.2.1, (z6.2.2.2.1, (z6.2.2.2.2.1, (z6.2.2.2.2.2.1, (z6.2.2.2.2.2.2.1, ())))))))], z9])).bind (fun y13 => some (.ret (y13, true)))
  else (bif (a2.1 == 4) then
  (ix y7 0).bind (fun z14 => (ix y7 1).bind (fun z15 => (slx a1 z14 z15).bind (fun z16 => (ix y7 1).bind (fun z17 => (slx a1 z17 y8).bind (fun z18 => (F_slices_Concat_LimplNode ([[(z6.1, (z6.2.1, (z6.2.2.1, (z6.2.2.2.1, (z6.2.2.2.2.1, (z6.2.2.2.2.2.1, (z6.2.2.2.2.2.2.1, ())))))))], [(z5.1, (z5.2.1, (z5.2.2.1, (z5.2.2.2.1, (z5.2.2.2.2.1, (z5.2.2.2.2.2.1, (z5.2.2.2.2.2.2.1, ())))))))], z16, [(z5.1, (z5.2.1, (z5.2.2.1, (z5.2.2.2.1, (z5.2.2.2.2.1, (z5.2.2.2.2.2.1, (z5.2.2.2.2.2.2.1, ())))))))], z18])).bind (fun y19 => some (.ret (y19, true))))))))
  else joinK ((bif (a2.1 == 5) then
  some (.go true)
  else some (.go (a2.1 == 6))))
  (fun s => J_impl_turnedx3 a0 a1 a2 z5 z6 y7 y8 z9 s))))))
  (fun s => J_impl_turnedx1 z5 z9 s.1 s.2.1 s.2.2)))))))
theorem U_impl_turned (a0 : List STable) (a1 : List SNode) (a2 : SStep) : Le ((F_impl_over a2.1).bind (fun y1 => joinK ((bif (decide (y1.1 < 0)) then
  some (.go true)
  else (ix a1 a2.2.1).bind (fun z2 => (bif (z2.1 != y1.1) then
  some (.go true)
  else (ix a1 (IntKind.i64.wrap (a2.2.1 + 1))).bind (fun z3 => some (.go (z3.1 != y1.2)))))))
  (fun s => J_impl_turnedx0 a0 a1 a2 s))) (F_impl_turned a0 a1 a2) := callL_le (tt := tt) (FT := FT) (SP := SP) (j := 78) rfl (by kernel_rfl)
@[simp] noncomputable def J_impl_overx0 (a0 : Int) (v1 : Bool) : Option (Int × Int) :=
  (bif v1 then
  some (1, 3)
  else (bif (a0 == 7) then
  some (7, 7)
  else (bif (a0 == 8) then
  some (2, 2)
  else (bif (a0 == 9) then
  some (6, 2)
  else (bif (a0 == 10) then
  some (1, 2)
  else (bif (a0 == 11) then
  some (7, 5)
  else some ((-1), (-1))))))))
theorem U_impl_over (a0 : Int) : Le ((bif (a0 == 0) then
  some (1, 1)
  else (bif (a0 == 1) then
  some (1, 5)
  else (bif (a0 == 2) then
  some (6, 6)
  else (bif (a0 == 3) then
  some (5, 5)
  else (bif (a0 == 4) then
  some (1, 4)
  else joinK ((bif (a0 == 5) then
  some (.go true)
  else some (.go (a0 == 6))))
  (fun s => J_impl_overx0 a0 s))))))) (F_impl_over a0) := callL_le (tt := tt) (FT := FT) (SP := SP) (j := 79) rfl (by kernel_rfl)
@[simp] noncomputable def J_slices_Concat_LimplNodex1 (v2 : Int) (f0 : (Int × Int) → Option (Ex (List SNode) Int)) (v4 : Int) : Option (Ex (List SNode) Int) :=
  f0 (v4, (IntKind.i64.wrap (v2 + 1)))
noncomputable def L_slices_Concat_LimplNodex0 (a0 : List (List SNode)) (f0 : (Int × Int) → Option (Ex (List SNode) Int)) (v1 : Int) (v2 : Int) : Option (Ex (List SNode) Int) :=
  (bif (decide (v2 < (a0.length : Int))) then
  joinK ((ix a0 v2).bind (fun z3 => (bif (decide ((IntKind.i64.wrap (v1 + (z3.length : Int))) < 0)) then
  none
  else some (.go (IntKind.i64.wrap (v1 + (z3.length : Int)))))))
  (fun s => J_slices_Concat_LimplNodex1 v2 f0 s)
  else some (.go v1))
noncomputable def L_slices_Concat_LimplNodex1 (a0 : List (List SNode)) (f1 : ((List SNode) × Int) → Option (Ex (List SNode) (List SNode))) (v7 : List SNode) (v8 : Int) : Option (Ex (List SNode) (List SNode)) :=
  (bif (decide (v8 < (a0.length : Int))) then
  (ix a0 v8).bind (fun z9 => (apx v7 z9).bind (fun z10 => f1 (z10, (IntKind.i64.wrap (v8 + 1)))))
  else some (.go v7))
@[simp] noncomputable def J_slices_Concat_LimplNodex2 (v11 : List SNode) : Option (List SNode) :=
  some v11
@[simp] noncomputable def J_slices_Concat_LimplNodex0 (a0 : List (List SNode)) (v5 : Int) : Option (List SNode) :=
  (F_slices_Grow_LimplNode v5).bind (fun y6 => joinK (loopF (fun f s => L_slices_Concat_LimplNodex1 a0 f s.1 s.2) (y6, 0))
  (fun s => J_slices_Concat_LimplNodex2 s))
theorem U_slices_Concat_LimplNode (a0 : List (List SNode)) : Le (joinK (loopF (fun f s => L_slices_Concat_LimplNodex0 a0 f s.1 s.2) (0, 0))
  (fun s => J_slices_Concat_LimplNodex0 a0 s)) (F_slices_Concat_LimplNode a0) := callL_le (tt := tt) (FT := FT) (SP := SP) (j := 80) rfl (by kernel_rfl)
theorem U_slices_Grow_LimplNode (a1 : Int) : Le ((bif (decide (a1 < 0)) then
  none
  else (bif (decide ((IntKind.i64.wrap (a1 - (IntKind.i64.wrap (0 - 0)))) > 0)) then
  (mkx (IntKind.i64.wrap (a1 - (IntKind.i64.wrap (0 - 0)))) ((0, (ByteArray.empty, (0, (0, (0, (false, ([], ()))))))) : SNode)).bind (fun z1 => (tkx z1 0).bind (fun z2 => some z2))
  else some ([])))) (F_slices_Grow_LimplNode a1) := callL_le (tt := tt) (FT := FT) (SP := SP) (j := 81) rfl (by kernel_rfl)
noncomputable def L_laws_eqNodeSx0 (a0 : List SNode) (a1 : List SNode) (f0 : (Bool × Int) → Option (Ex Bool Bool)) (v1 : Bool) (v2 : Int) : Option (Ex Bool Bool) :=
  (bif (decide (v2 < (a0.length : Int))) then
  (ix a0 v2).bind (fun z3 => (ix a1 v2).bind (fun z4 => (F_laws_eqNode z3 z4).bind (fun y5 => (bif (!y5) then
  some (.ret false)
  else f0 (v1, (IntKind.i64.wrap (v2 + 1)))))))
  else some (.go v1))
@[simp] noncomputable def J_laws_eqNodeSx0 (v6 : Bool) : Option Bool :=
  some true
theorem U_laws_eqNodeS (a0 : List SNode) (a1 : List SNode) : Le ((bif ((a0.length : Int) != (a1.length : Int)) then
  some false
  else joinK (loopF (fun f s => L_laws_eqNodeSx0 a0 a1 f s.1 s.2) (false, 0))
  (fun s => J_laws_eqNodeSx0 s))) (F_laws_eqNodeS a0 a1) := callL_le (tt := tt) (FT := FT) (SP := SP) (j := 82) rfl (by kernel_rfl)
theorem U_laws_eqNode (a0 : SNode) (a1 : SNode) : Le ((bif (a0.1 != a1.1) then
  some false
  else (bif (!(a0.2.1.toList == a1.2.1.toList)) then
  some false
  else (bif (a0.2.2.1 != a1.2.2.1) then
  some false
  else (bif (a0.2.2.2.1 != a1.2.2.2.1) then
  some false
  else (bif (a0.2.2.2.2.1 != a1.2.2.2.2.1) then
  some false
  else (bif (a0.2.2.2.2.2.1 != a1.2.2.2.2.2.1) then
  some false
  else (F_laws_eqIntS a0.2.2.2.2.2.2.1 a1.2.2.2.2.2.2.1).bind (fun y1 => (bif (!y1) then
  some false
  else some true))))))))) (F_laws_eqNode a0 a1) := callL_le (tt := tt) (FT := FT) (SP := SP) (j := 83) rfl (by kernel_rfl)
noncomputable def L_laws_eqIntSx0 (a0 : List Int) (a1 : List Int) (f0 : (Bool × Int) → Option (Ex Bool Bool)) (v1 : Bool) (v2 : Int) : Option (Ex Bool Bool) :=
  (bif (decide (v2 < (a0.length : Int))) then
  (ix a0 v2).bind (fun z3 => (ix a1 v2).bind (fun z4 => (bif (z3 != z4) then
  some (.ret false)
  else f0 (v1, (IntKind.i64.wrap (v2 + 1))))))
  else some (.go v1))
@[simp] noncomputable def J_laws_eqIntSx0 (v5 : Bool) : Option Bool :=
  some true
theorem U_laws_eqIntS (a0 : List Int) (a1 : List Int) : Le ((bif ((a0.length : Int) != (a1.length : Int)) then
  some false
  else joinK (loopF (fun f s => L_laws_eqIntSx0 a0 a1 f s.1 s.2) (false, 0))
  (fun s => J_laws_eqIntSx0 s))) (F_laws_eqIntS a0 a1) := callL_le (tt := tt) (FT := FT) (SP := SP) (j := 84) rfl (by kernel_rfl)
noncomputable def L_laws_eqStepSx0 (a0 : List SStep) (a1 : List SStep) (f0 : (Bool × Int) → Option (Ex Bool Bool)) (v1 : Bool) (v2 : Int) : Option (Ex Bool Bool) :=
  (bif (decide (v2 < (a0.length : Int))) then
  (ix a0 v2).bind (fun z3 => (ix a1 v2).bind (fun z4 => (F_laws_eqStep z3 z4).bind (fun y5 => (bif (!y5) then
  some (.ret false)
  else f0 (v1, (IntKind.i64.wrap (v2 + 1)))))))
  else some (.go v1))
@[simp] noncomputable def J_laws_eqStepSx0 (v6 : Bool) : Option Bool :=
  some true
theorem U_laws_eqStepS (a0 : List SStep) (a1 : List SStep) : Le ((bif ((a0.length : Int) != (a1.length : Int)) then
  some false
  else joinK (loopF (fun f s => L_laws_eqStepSx0 a0 a1 f s.1 s.2) (false, 0))
  (fun s => J_laws_eqStepSx0 s))) (F_laws_eqStepS a0 a1) := callL_le (tt := tt) (FT := FT) (SP := SP) (j := 85) rfl (by kernel_rfl)
theorem U_laws_eqStep (a0 : SStep) (a1 : SStep) : Le ((bif (a0.1 != a1.1) then
  some false
  else (bif (a0.2.1 != a1.2.1) then
  some false
  else some true))) (F_laws_eqStep a0 a1) := callL_le (tt := tt) (FT := FT) (SP := SP) (j := 86) rfl (by kernel_rfl)
noncomputable def L_laws_eqTableSx0 (a0 : List STable) (a1 : List STable) (f0 : (Bool × Int) → Option (Ex Bool Bool)) (v1 : Bool) (v2 : Int) : Option (Ex Bool Bool) :=
  (bif (decide (v2 < (a0.length : Int))) then
  (ix a0 v2).bind (fun z3 => (ix a1 v2).bind (fun z4 => (F_laws_eqTable z3 z4).bind (fun y5 => (bif (!y5) then
  some (.ret false)
  else f0 (v1, (IntKind.i64.wrap (v2 + 1)))))))
  else some (.go v1))
@[simp] noncomputable def J_laws_eqTableSx0 (v6 : Bool) : Option Bool :=
  some true
theorem U_laws_eqTableS (a0 : List STable) (a1 : List STable) : Le ((bif ((a0.length : Int) != (a1.length : Int)) then
  some false
  else joinK (loopF (fun f s => L_laws_eqTableSx0 a0 a1 f s.1 s.2) (false, 0))
  (fun s => J_laws_eqTableSx0 s))) (F_laws_eqTableS a0 a1) := callL_le (tt := tt) (FT := FT) (SP := SP) (j := 87) rfl (by kernel_rfl)
theorem U_laws_eqTable (a0 : STable) (a1 : STable) : Le ((bif (!(a0.1.toList == a1.1.toList)) then
  some false
  else (bif (a0.2.1 != a1.2.1) then
  some false
  else some true))) (F_laws_eqTable a0 a1) := callL_le (tt := tt) (FT := FT) (SP := SP) (j := 88) rfl (by kernel_rfl)
noncomputable def L_laws_markTableSx0 (f0 : (Int × Int × (List STable)) → Option (Ex (Int × (List STable)) (Int × (List STable)))) (v1 : Int) (v2 : Int) (v3 : List STable) : Option (Ex (Int × (List STable)) (Int × (List STable))) :=
  (bif (decide (v2 < (v3.length : Int))) then
  (F_laws_markText v1).bind (fun y4 => (ix v3 v2).bind (fun z5 => (ix v3 v2).bind (fun z6 => (ix (v3.set (v2).toNat (y4, z6.2)) v2).bind (fun z7 => (ix (v3.set (v2).toNat (y4, z6.2)) v2).bind (fun z8 => f0 ((IntKind.i64.wrap ((IntKind.i64.wrap (v1 + 1)) + 1)), (IntKind.i64.wrap (v2 + 1)), ((v3.set (v2).toNat (y4, z6.2)).set (v2).toNat (z8.1, ((IntKind.i64.wrap (v1 + 1)), z8.2.2)))))))))
  else some (.go (v1, v3)))
@[simp] noncomputable def J_laws_markTableSx0 (v9 : Int) (v10 : List STable) : Option (Int × (List STable)) :=
  some (v9, v10)
theorem U_laws_markTableS (a0 : List STable) (a1 : Int) : Le (joinK (loopF (fun f s => L_laws_markTableSx0 f s.1 s.2.1 s.2.2) (a1, 0, a0))
  (fun s => J_laws_markTableSx0 s.1 s.2)) (F_laws_markTableS a0 a1) := callL_le (tt := tt) (FT := FT) (SP := SP) (j := 89) rfl (by kernel_rfl)
noncomputable def L_laws_markTextx0 (f0 : (Int × ByteArray) → Option (Ex ByteArray ByteArray)) (v1 : Int) (v2 : ByteArray) : Option (Ex ByteArray ByteArray) :=
  (bif (decide (v1 > 0)) then
  (remx v1 10).bind (fun z3 => (addx (bsOf ([(IntKind.u8.wrap (IntKind.i64.wrap (48 + z3)))])) v2).bind (fun z4 => (quox v1 10).bind (fun z5 => f0 (z5, z4))))
  else some (.go v2))
@[simp] noncomputable def J_laws_markTextx0 (v6 : ByteArray) : Option ByteArray :=
  (addx (⟨#[109]⟩ : ByteArray) v6).bind (fun z7 => some z7)
theorem U_laws_markText (a0 : Int) : Le ((bif (decide (a0 ≤ 0)) then
  some (⟨#[109, 48]⟩ : ByteArray)
  else joinK (loopF (fun f s => L_laws_markTextx0 f s.1 s.2) (a0, ByteArray.empty))
  (fun s => J_laws_markTextx0 s))) (F_laws_markText a0) := callL_le (tt := tt) (FT := FT) (SP := SP) (j := 90) rfl (by kernel_rfl)
noncomputable def L_laws_markIntSx0 (f0 : (Int × Int × (List Int)) → Option (Ex (Int × (List Int)) (Int × (List Int)))) (v1 : Int) (v2 : Int) (v3 : List Int) : Option (Ex (Int × (List Int)) (Int × (List Int))) :=
  (bif (decide (v2 < (v3.length : Int))) then
  (ix v3 v2).bind (fun z4 => (stx v3 v2 v1).bind (fun z5 => f0 ((IntKind.i64.wrap (v1 + 1)), (IntKind.i64.wrap (v2 + 1)), z5)))
  else some (.go (v1, v3)))
@[simp] noncomputable def J_laws_markIntSx0 (v6 : Int) (v7 : List Int) : Option (Int × (List Int)) :=
  some (v6, v7)
theorem U_laws_markIntS (a0 : List Int) (a1 : Int) : Le (joinK (loopF (fun f s => L_laws_markIntSx0 f s.1 s.2.1 s.2.2) (a1, 0, a0))
  (fun s => J_laws_markIntSx0 s.1 s.2)) (F_laws_markIntS a0 a1) := callL_le (tt := tt) (FT := FT) (SP := SP) (j := 91) rfl (by kernel_rfl)
noncomputable def L_laws_markNodeSx0 (f0 : (Int × Int × (List SNode)) → Option (Ex (Int × (List SNode)) (Int × (List SNode)))) (v1 : Int) (v2 : Int) (v3 : List SNode) : Option (Ex (Int × (List SNode)) (Int × (List SNode))) :=
  (bif (decide (v2 < (v3.length : Int))) then
  (ix v3 v2).bind (fun z4 => (ix v3 v2).bind (fun z5 => (F_laws_markText (IntKind.i64.wrap (v1 + 1))).bind (fun y6 => (ix (v3.set (v2).toNat (v1, z5.2)) v2).bind (fun z7 => (ix (v3.set (v2).toNat (v1, z5.2)) v2).bind (fun z8 => (ix ((v3.set (v2).toNat (v1, z5.2)).set (v2).toNat (z8.1, (y6, z8.2.2))) v2).bind (fun z9 => (ix ((v3.set (v2).toNat (v1, z5.2)).set (v2).toNat (z8.1, (y6, z8.2.2))) v2).bind (fun z10 => (ix (((v3.set (v2).toNat (v1, z5.2)).set (v2).toNat (z8.1, (y6, z8.2.2))).set (v2).toNat (z10.1, (z10.2.1, ((IntKind.i64.wrap ((IntKind.i64.wrap (v1 + 1)) + 1)), z10.2.2.2)))) v2).bind (fun z11 => (ix (((v3.set (v2).toNat (v1, z5.2)).set (v2).toNat (z8.1, (y6, z8.2.2))).set (v2).toNat (z10.1, (z10.2.1, ((IntKind.i64.wrap ((IntKind.i64.wrap (v1 + 1)) + 1)), z10.2.2.2)))) v2).bind (fun z12 => (ix ((((v3.set (v2).toNat (v1, z5.2)).set (v2).toNat (z8.1, (y6, z8.2.2))).set (v2).toNat (z10.1, (z10.2.1, ((IntKind.i64.wrap ((IntKind.i64.wrap (v1 + 1)) + 1)), z10.2.2.2)))).set (v2).toNat (z12.1, (z12.2.1, (z12.2.2.1, ((IntKind.i64.wrap ((IntKind.i64.wrap ((IntKind.i64.wrap (v1 + 1)) + 1)) + 1)), z12.2.2.2.2))))) v2).bind (fun z13 => (ix ((((v3.set (v2).toNat (v1, z5.2)).set (v2).toNat (z8.1, (y6, z8.2.2))).set (v2).toNat (z10.1, (z10.2.1, ((IntKind.i64.wrap ((IntKind.i64.wrap (v1 + 1)) + 1)), z10.2.2.2)))).set (v2).toNat (z12.1, (z12.2.1, (z12.2.2.1, ((IntKind.i64.wrap ((IntKind.i64.wrap ((IntKind.i64.wrap (v1 + 1)) + 1)) + 1)), z12.2.2.2.2))))) v2).bind (fun z14 => (remx (IntKind.i64.wrap ((IntKind.i64.wrap ((IntKind.i64.wrap ((IntKind.i64.wrap ((IntKind.i64.wrap (v1 + 1)) + 1)) + 1)) + 1)) + 1)) 3).bind (fun z15 => (ix (((((v3.set (v2).toNat (v1, z5.2)).set (v2).toNat (z8.1, (y6, z8.2.2))).set (v2).toNat (z10.1, (z10.2.1, ((IntKind.i64.wrap ((IntKind.i64.wrap (v1 + 1)) + 1)), z10.2.2.2)))).set (v2).toNat (z12.1, (z12.2.1, (z12.2.2.1, ((IntKind.i64.wrap ((IntKind.i64.wrap ((IntKind.i64.wrap (v1 + 1)) + 1)) + 1)), z12.2.2.2.2))))).set (v2).toNat (z14.1, (z14.2.1, (z14.2.2.1, (z14.2.2.2.1, ((IntKind.i64.wrap ((IntKind.i64.wrap ((IntKind.i64.wrap ((IntKind.i64.wrap (v1 + 1)) + 1)) + 1)) + 1)), z14.2.2.2.2.2)))))) v2).bind (fun z16 => (ix (((((v3.set (v2).toNat (v1, z5.2)).set (v2).toNat (z8.1, (y6, z8.2.2))).set (v2).toNat (z10.1, (z10.2.1, ((IntKind.i64.wrap ((IntKind.i64.wrap (v1 + 1)) + 1)), z10.2.2.2)))).set (v2).toNat (z12.1, (z12.2.1, (z12.2.2.1, ((IntKind.i64.wrap ((IntKind.i64.wrap ((IntKind.i64.wrap (v1 + 1)) + 1)) + 1)), z12.2.2.2.2))))).set (v2).toNat (z14.1, (z14.2.1, (z14.2.2.1, (z14.2.2.2.1, ((IntKind.i64.wrap ((IntKind.i64.wrap ((IntKind.i64.wrap ((IntKind.i64.wrap (v1 + 1)) + 1)) + 1)) + 1)), z14.2.2.2.2.2)))))) v2).bind (fun z17 => (ix ((((((v3.set (v2).toNat (v1, z5.2)).set (v2).toNat (z8.1, (y6, z8.2.2))).set (v2).toNat (z10.1, (z10.2.1, ((IntKind.i64.wrap ((IntKind.i64.wrap (v1 + 1)) + 1)), z10.2.2.2)))).set (v2).toNat (z12.1, (z12.2.1, (z12.2.2.1, ((IntKind.i64.wrap ((IntKind.i64.wrap ((IntKind.i64.wrap (v1 + 1)) + 1)) + 1)), z12.2.2.2.2))))).set (v2).toNat (z14.1, (z14.2.1, (z14.2.2.1, (z14.2.2.2.1, ((IntKind.i64.wrap ((IntKind.i64.wrap ((IntKind.i64.wrap ((IntKind.i64.wrap (v1 + 1)) + 1)) + 1)) + 1)), z14.2.2.2.2.2)))))).set (v2).toNat (z17.1, (z17.2.1, (z17.2.2.1, (z17.2.2.2.1, (z17.2.2.2.2.1, ((z15 == 0), z17.2.2.2.2.2.2))))))) v2).bind (fun z18 => (ix ((((((v3.set (v2).toNat (v1, z5.2)).set (v2).toNat (z8.1, (y6, z8.2.2))).set (v2).toNat (z10.1, (z10.2.1, ((IntKind.i64.wrap ((IntKind.i64.wrap (v1 + 1)) + 1)), z10.2.2.2)))).set (v2).toNat (z12.1, (z12.2.1, (z12.2.2.1, ((IntKind.i64.wrap ((IntKind.i64.wrap ((IntKind.i64.wrap (v1 + 1)) + 1)) + 1)), z12.2.2.2.2))))).set (v2).toNat (z14.1, (z14.2.1, (z14.2.2.1, (z14.2.2.2.1, ((IntKind.i64.wrap ((IntKind.i64.wrap ((IntKind.i64.wrap ((IntKind.i64.wrap (v1 + 1)) + 1)) + 1)) + 1)), z14.2.2.2.2.2)))))).set (v2).toNat (z17.1, (z17.2.1, (z17.2.2.1, (z17.2.2.2.1, (z17.2.2.2.2.1, ((z15 == 0), z17.2.2.2.2.2.2))))))) v2).bind (fun z19 => (bind2 (ix ((((((v3.set (v2).toNat (v1, z5.2)).set (v2).toNat (z8.1, (y6, z8.2.2))).set (v2).toNat (z10.1, (z10.2.1, ((IntKind.i64.wrap ((IntKind.i64.wrap (v1 + 1)) + 1)), z10.2.2.2)))).set (v2).toNat (z12.1, (z12.2.1, (z12.2.2.1, ((IntKind.i64.wrap ((IntKind.i64.wrap ((IntKind.i64.wrap (v1 + 1)) + 1)) + 1)), z12.2.2.2.2))))).set (v2).toNat (z14.1, (z14.2.1, (z14.2.2.1, (z14.2.2.2.1, ((IntKind.i64.wrap ((IntKind.i64.wrap ((IntKind.i64.wrap ((IntKind.i64.wrap (v1 + 1)) + 1)) + 1)) + 1)), z14.2.2.2.2.2)))))).set (v2).toNat (z17.1, (z17.2.1, (z17.2.2.1, (z17.2.2.2.1, (z17.2.2.2.2.1, ((z15 == 0), z17.2.2.2.2.2.2))))))) v2) (fun z20 => F_laws_markIntS z20.2.2.2.2.2.2.1 (IntKind.i64.wrap ((IntKind.i64.wrap ((IntKind.i64.wrap ((IntKind.i64.wrap ((IntKind.i64.wrap ((IntKind.i64.wrap (v1 + 1)) + 1)) + 1)) + 1)) + 1)) + 1)))).bind (fun y21 => f0 (y21.2.1, (IntKind.i64.wrap (v2 + 1)), (((((((v3.set (v2).toNat (v1, z5.2)).set (v2).toNat (z8.1, (y6, z8.2.2))).set (v2).toNat (z10.1, (z10.2.1, ((IntKind.i64.wrap ((IntKind.i64.wrap (v1 + 1)) + 1)), z10.2.2.2)))).set (v2).toNat (z12.1, (z12.2.1, (z12.2.2.1, ((IntKind.i64.wrap ((IntKind.i64.wrap ((IntKind.i64.wrap (v1 + 1)) + 1)) + 1)), z12.2.2.2.2))))).set (v2).toNat (z14.1, (z14.2.1, (z14.2.2.1, (z14.2.2.2.1, ((IntKind.i64.wrap ((IntKind.i64.wrap ((IntKind.i64.wrap ((IntKind.i64.wrap (v1 + 1)) + 1)) + 1)) + 1)), z14.2.2.2.2.2)))))).set (v2).toNat (z17.1, (z17.2.1, (z17.2.2.1, (z17.2.2.2.1, (z17.2.2.2.2.1, ((z15 == 0), z17.2.2.2.2.2.2))))))).set (v2).toNat (y21.1.1, (y21.1.2.1, (y21.1.2.2.1, (y21.1.2.2.2.1, (y21.1.2.2.2.2.1, (y21.1.2.2.2.2.2.1, (y21.2.2, y21.1.2.2.2.2.2.2.2))))))))))))))))))))))))))
  else some (.go (v1, v3)))
@[simp] noncomputable def J_laws_markNodeSx0 (v22 : Int) (v23 : List SNode) : Option (Int × (List SNode)) :=
  some (v22, v23)
theorem U_laws_markNodeS (a0 : List SNode) (a1 : Int) : Le (joinK (loopF (fun f s => L_laws_markNodeSx0 f s.1 s.2.1 s.2.2) (a1, 0, a0))
  (fun s => J_laws_markNodeSx0 s.1 s.2)) (F_laws_markNodeS a0 a1) := callL_le (tt := tt) (FT := FT) (SP := SP) (j := 92) rfl (by kernel_rfl)
noncomputable def L_laws_markStepSx0 (f0 : (Int × Int × (List SStep)) → Option (Ex (Int × (List SStep)) (Int × (List SStep)))) (v1 : Int) (v2 : Int) (v3 : List SStep) : Option (Ex (Int × (List SStep)) (Int × (List SStep))) :=
  (bif (decide (v2 < (v3.length : Int))) then
  (ix v3 v2).bind (fun z4 => (ix v3 v2).bind (fun z5 => (ix (v3.set (v2).toNat (v1, z5.2)) v2).bind (fun z6 => (ix (v3.set (v2).toNat (v1, z5.2)) v2).bind (fun z7 => f0 ((IntKind.i64.wrap ((IntKind.i64.wrap (v1 + 1)) + 1)), (IntKind.i64.wrap (v2 + 1)), ((v3.set (v2).toNat (v1, z5.2)).set (v2).toNat (z7.1, ((IntKind.i64.wrap (v1 + 1)), z7.2.2))))))))
  else some (.go (v1, v3)))
@[simp] noncomputable def J_laws_markStepSx0 (v8 : Int) (v9 : List SStep) : Option (Int × (List SStep)) :=
  some (v8, v9)
theorem U_laws_markStepS (a0 : List SStep) (a1 : Int) : Le (joinK (loopF (fun f s => L_laws_markStepSx0 f s.1 s.2.1 s.2.2) (a1, 0, a0))
  (fun s => J_laws_markStepSx0 s.1 s.2)) (F_laws_markStepS a0 a1) := callL_le (tt := tt) (FT := FT) (SP := SP) (j := 93) rfl (by kernel_rfl)
noncomputable def L_laws_heldNodeSx0 (a0 : List SNode) (f0 : (Int × Int × Int) → Option (Ex Int (Int × Int))) (v1 : Int) (v2 : Int) (v3 : Int) : Option (Ex Int (Int × Int)) :=
  (bif (decide (v3 < (a0.length : Int))) then
  (ix a0 v3).bind (fun z4 => (bif (z4.1 != v1) then
  some (.ret (-1))
  else (ix a0 v3).bind (fun z5 => (F_laws_markText (IntKind.i64.wrap (v1 + 1))).bind (fun y6 => (bif (!(z5.2.1.toList == y6.toList)) then
  some (.ret (-1))
  else (ix a0 v3).bind (fun z7 => (bif (z7.2.2.1 != (IntKind.i64.wrap ((IntKind.i64.wrap (v1 + 1)) + 1))) then
  some (.ret (-1))
  else (ix a0 v3).bind (fun z8 => (bif (z8.2.2.2.1 != (IntKind.i64.wrap ((IntKind.i64.wrap ((IntKind.i64.wrap (v1 + 1)) + 1)) + 1))) then
  some (.ret (-1))
  else (ix a0 v3).bind (fun z9 => (bif (z9.2.2.2.2.1 != (IntKind.i64.wrap ((IntKind.i64.wrap ((IntKind.i64.wrap ((IntKind.i64.wrap (v1 + 1)) + 1)) + 1)) + 1))) then
  some (.ret (-1))
  else (ix a0 v3).bind (fun z10 => (remx (IntKind.i64.wrap ((IntKind.i64.wrap ((IntKind.i64.wrap ((IntKind.i64.wrap ((IntKind.i64.wrap (v1 + 1)) + 1)) + 1)) + 1)) + 1)) 3).bind (fun z11 => (bif (z10.2.2.2.2.2.1 != (z11 == 0)) then
  some (.ret (-1))
  else (ix a0 v3).bind (fun z12 => (F_laws_heldIntS z12.2.2.2.2.2.2.1 (IntKind.i64.wrap ((IntKind.i64.wrap ((IntKind.i64.wrap ((IntKind.i64.wrap ((IntKind.i64.wrap ((IntKind.i64.wrap (v1 + 1)) + 1)) + 1)) + 1)) + 1)) + 1))).bind (fun y13 => (bif (decide (y13 < 0)) then
  some (.ret (-1))
  else f0 (y13, v2, (IntKind.i64.wrap (v3 + 1))))))))))))))))))))
  else some (.go (v1, v2)))
@[simp] noncomputable def J_laws_heldNodeSx0 (v14 : Int) (v15 : Int) : Option Int :=
  some v14
theorem U_laws_heldNodeS (a0 : List SNode) (a1 : Int) : Le (joinK (loopF (fun f s => L_laws_heldNodeSx0 a0 f s.1 s.2.1 s.2.2) (a1, 0, 0))
  (fun s => J_laws_heldNodeSx0 s.1 s.2)) (F_laws_heldNodeS a0 a1) := callL_le (tt := tt) (FT := FT) (SP := SP) (j := 94) rfl (by kernel_rfl)
noncomputable def L_laws_heldIntSx0 (a0 : List Int) (f0 : (Int × Int × Int) → Option (Ex Int (Int × Int))) (v1 : Int) (v2 : Int) (v3 : Int) : Option (Ex Int (Int × Int)) :=
  (bif (decide (v3 < (a0.length : Int))) then
  (ix a0 v3).bind (fun z4 => (bif (z4 != v1) then
  some (.ret (-1))
  else f0 ((IntKind.i64.wrap (v1 + 1)), v2, (IntKind.i64.wrap (v3 + 1)))))
  else some (.go (v1, v2)))
@[simp] noncomputable def J_laws_heldIntSx0 (v5 : Int) (v6 : Int) : Option Int :=
  some v5
theorem U_laws_heldIntS (a0 : List Int) (a1 : Int) : Le (joinK (loopF (fun f s => L_laws_heldIntSx0 a0 f s.1 s.2.1 s.2.2) (a1, 0, 0))
  (fun s => J_laws_heldIntSx0 s.1 s.2)) (F_laws_heldIntS a0 a1) := callL_le (tt := tt) (FT := FT) (SP := SP) (j := 95) rfl (by kernel_rfl)
noncomputable def L_laws_heldStepSx0 (a0 : List SStep) (f0 : (Int × Int × Int) → Option (Ex Int (Int × Int))) (v1 : Int) (v2 : Int) (v3 : Int) : Option (Ex Int (Int × Int)) :=
  (bif (decide (v3 < (a0.length : Int))) then
  (ix a0 v3).bind (fun z4 => (bif (z4.1 != v1) then
  some (.ret (-1))
  else (ix a0 v3).bind (fun z5 => (bif (z5.2.1 != (IntKind.i64.wrap (v1 + 1))) then
  some (.ret (-1))
  else f0 ((IntKind.i64.wrap ((IntKind.i64.wrap (v1 + 1)) + 1)), v2, (IntKind.i64.wrap (v3 + 1)))))))
  else some (.go (v1, v2)))
@[simp] noncomputable def J_laws_heldStepSx0 (v6 : Int) (v7 : Int) : Option Int :=
  some v6
theorem U_laws_heldStepS (a0 : List SStep) (a1 : Int) : Le (joinK (loopF (fun f s => L_laws_heldStepSx0 a0 f s.1 s.2.1 s.2.2) (a1, 0, 0))
  (fun s => J_laws_heldStepSx0 s.1 s.2)) (F_laws_heldStepS a0 a1) := callL_le (tt := tt) (FT := FT) (SP := SP) (j := 96) rfl (by kernel_rfl)
end Go.Proofs.YtglbcdlplbomdaaX
