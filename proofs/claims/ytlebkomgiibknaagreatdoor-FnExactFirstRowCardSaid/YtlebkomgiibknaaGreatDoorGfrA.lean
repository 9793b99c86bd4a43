/- Printed: for each function that the statement reaches, a plain function, and that it is what the program's function answers. -/
import Derived.Test.YtlebkomgiibknaaGreatDoorProg
import Derived.Test.YtlebkomgiibknaaGreatDoorTrfrD
set_option linter.all false
namespace Go.Proofs.YtlebkomgiibknaaGreatDoorX
open Go Go.Proofs Go.Proofs.YtlebkomgiibknaaGreatDoorT
set_option maxRecDepth 100000
set_option linter.all false
abbrev STable := ByteArray × Int × Unit
abbrev SNode := Int × ByteArray × Int × Int × Int × Bool × (List Int) × Unit
abbrev Sstream := Int × Unit
abbrev Yv1 : Ty := .int .i64
abbrev Yv4 : Ty := .sl 3 Yv1
abbrev Yv0 : Ty := .pr Yv1 (.pr .str (.pr Yv1 (.pr Yv1 (.pr Yv1 (.pr .bool (.pr Yv4 .un))))))
abbrev Yv2 : Ty := .sl 36 Yv4
abbrev Yv5 : Ty := .pr .str (.pr Yv1 .un)
abbrev Yv3 : Ty := .sl 59 Yv5
abbrev Yv6 : Ty := .sl 61 Yv0
abbrev Yv7 : Ty := .sl 53 Yv2
abbrev Yt10 : Type := List Int
abbrev Yt8 : Type := List Yt10
abbrev Yt9 : Type := Yt8 × Int × ByteArray × Int × Int × Int × Bool × Yt10
abbrev Yt12 : Type := Int × Yt8 × Int × ByteArray × Int × Int × Int × Bool × Yt10
abbrev Yt13 : Type := Ex Bool Bool
abbrev Yt14 : Type := Yt8 × Int
abbrev Yt15 : Type := Yt8 × Bool
abbrev Yt16 : Type := Int × Int × ByteArray × Int × Int × Int × Bool × Yt10
abbrev Yt17 : Type := Ex Bool (Int × ByteArray × Int × Int × Int × Bool × Yt10 × Bool)
abbrev Yt18 : Type := Ex Yt8 Yt8
abbrev Yt19 : Type := Int × Int
abbrev Yt20 : Type := Bool × Int
abbrev Yt21 : Type := Ex Int Int
abbrev Yt23 : Type := List Yt8
abbrev Yt11 : Type := Ex (Ex Yt23 Yt23) (Yt23 × Int)
abbrev Yt22 : Type := Ex (Ex (Ex Yt11 (Int × Yt8)) (Int × Yt8)) (Int × Yt10)
abbrev Yt24 : Type := Ex ByteArray ByteArray
abbrev Yt25 : Type := Int × Int × Yt8 × Int × ByteArray × Int × Int × Int × Bool × Yt10
abbrev Yt26 : Type := Ex Yt18 Yt8
abbrev Yt27 : Type := Int × Int × Int × ByteArray × Int × Int × Int × Bool × Yt10
abbrev Yt28 : Type := Ex Yt9 Yt9
abbrev Yt29 : Type := Ex (Ex (Ex Yt11 Yt14) Yt14) (Yt10 × Int)
abbrev Yt30 : Type := Ex Yt13 Bool
abbrev Yt31 : Type := Ex Yt19 (Int × Int × Int × Int)
abbrev Yt32 : Type := Int × ByteArray
abbrev Yl0 : LT := ⟨false, false, Yv1⟩
abbrev Yl1 : LT := ⟨false, false, .bool⟩
abbrev Yl2 : LT := ⟨true, false, Yv2⟩
abbrev Yl3 : LT := ⟨false, false, .str⟩
abbrev Yl4 : LT := ⟨false, false, Yv4⟩
abbrev Yl5 : LT := ⟨true, true, Yv4⟩
abbrev Yl6 : LT := ⟨true, true, Yv2⟩
abbrev Yl7 : LT := ⟨true, true, Yv7⟩
abbrev Yl8 : LT := ⟨true, true, Yv1⟩
def ttL : List (Nat × Ty) := [(3, Yv1),
 (4, .bool),
 (5, (.int .u8)),
 (9, .str),
 (22, (.sl 49 Yv5)),
 (23, (.sl 52 Yv0)),
 (27, Yv3),
 (29, Yv6),
 (34, (.sl 5 (.int .u8))),
 (36, Yv4),
 (49, Yv5),
 (52, Yv0),
 (53, Yv2),
 (56, Yv7),
 (59, Yv5),
 (61, Yv0),
 (73, (.sl 9 .str)),
 (99, (.pr Yv1 .un)),
 (178, (.int .u64))]
def tt (T : TypeId) : Option Ty := lkT ttL T
theorem tt_ok : TTok Tryz.prog tt := lkT_ok (by kernel_rfl)
noncomputable def i_laws_FnExactFirstRow : Inst := { f := 3, fn := Tryz.f3, n := 49, pds := [.rd (.sl 49 Yv5), .rd (.sl 52 Yv0), .rd Yv1], caps := [], res := [Yl1], h := { al := [32, 33, 39, 44], ca := [(14, 1), (19, 3), (23, 6), (25, 8), (27, 11), (29, 6), (31, 8), (35, 45), (41, 6), (42, 107), (46, 8), (47, 109)], code := .nil } }
noncomputable def i_laws_szTableS : Inst := { f := 5, fn := Tryz.f5, n := 27, pds := [.rd (.sl 49 Yv5), .rd Yv1], caps := [], res := [Yl0], h := { ca := [(23, 2)], code := (.two .nil (.two .nil (.two .nil (.join ⟨[1, 4], [(1, .v Yl0), (4, .v Yl0)]⟩ (.two .nil (.loop ⟨[1, 4, 5], [(1, .v Yl0), (4, .v Yl0), (5, .v Yl0)]⟩ .nil)) .nil)))) } }
noncomputable def i_laws_szTable : Inst := { f := 28, fn := Tryz.f28, n := 13, pds := [.rd Yv5, .rd Yv1], caps := [], res := [Yl0], h := { code := .nil } }
noncomputable def i_laws_szNodeS : Inst := { f := 6, fn := Tryz.f6, n := 27, pds := [.rd (.sl 52 Yv0), .rd Yv1], caps := [], res := [Yl0], h := { ca := [(23, 4)], code := (.two .nil (.two .nil (.two .nil (.join ⟨[1, 4], [(1, .v Yl0), (4, .v Yl0)]⟩ (.two .nil (.loop ⟨[1, 4, 5], [(1, .v Yl0), (4, .v Yl0), (5, .v Yl0)]⟩ .nil)) .nil)))) } }
noncomputable def i_laws_szNode : Inst := { f := 29, fn := Tryz.f29, n := 19, pds := [.rd Yv0, .rd Yv1], caps := [], res := [Yl0], h := { ca := [(15, 5)], code := .nil } }
noncomputable def i_laws_szIntS : Inst := { f := 60, fn := Tryz.f60, n := 12, pds := [.rd Yv4, .rd Yv1], caps := [], res := [Yl0], h := { code := .nil } }
noncomputable def i_laws_toTableS : Inst := { f := 8, fn := Tryz.f8, n := 23, pds := [.rd (.sl 49 Yv5)], caps := [], res := [⟨true, true, Yv3⟩], h := { al := [14], el := [21], ca := [(20, 7)], code := (.two .nil (.two .nil (.join ⟨[3], [(3, .v ⟨true, true, Yv3⟩)]⟩ (.two .nil (.loop ⟨[3, 4], [(3, .v ⟨true, true, Yv3⟩), (4, .v Yl0)]⟩ .nil)) .nil))) } }
noncomputable def i_laws_toTable : Inst := { f := 33, fn := Tryz.f33, n := 11, pds := [.rd Yv5], caps := [], res := [⟨false, false, Yv5⟩], h := { code := .nil } }
noncomputable def i_laws_toNodeS : Inst := { f := 9, fn := Tryz.f9, n := 23, pds := [.rd (.sl 52 Yv0)], caps := [], res := [⟨true, true, Yv6⟩], h := { al := [14], el := [21], ca := [(20, 9)], code := (.two .nil (.two .nil (.join ⟨[3], [(3, .v ⟨true, true, Yv6⟩)]⟩ (.two .nil (.loop ⟨[3, 4], [(3, .v ⟨true, true, Yv6⟩), (4, .v Yl0)]⟩ .nil)) .nil))) } }
noncomputable def i_laws_toNode : Inst := { f := 34, fn := Tryz.f34, n := 27, pds := [.rd Yv0], caps := [], res := [⟨true, true, Yv0⟩], h := { tk := [26], ca := [(24, 10)], code := .nil } }
noncomputable def i_laws_toIntS : Inst := { f := 69, fn := Tryz.f69, n := 22, pds := [.rd Yv4], caps := [], res := [Yl5], h := { al := [14], el := [20], code := (.two .nil (.two .nil (.join ⟨[3], [(3, .v Yl5)]⟩ (.two .nil (.loop ⟨[3, 4], [(3, .v Yl5), (4, .v Yl0)]⟩ .nil)) .nil))) } }
noncomputable def i_spec_FirstRow : Inst := { f := 7, fn := Tryz.f7, n := 29, pds := [.rd Yv3, .rd Yv6, .rd Yv1], caps := [], res := [Yl3], h := { al := [21, 25], ca := [(13, 12), (15, 18), (28, 43)], code := (.two .nil (.two .nil (.two (.join ⟨[], [(24, .v Yl1)]⟩ .nil .nil) .nil))) } }
noncomputable def i_spec_StoreFrom : Inst := { f := 31, fn := Tryz.f31, n := 63, pds := [.rd Yv3, .rd Yv1], caps := [], res := [Yl7], h := { ca := [(14, 13), (18, 15), (30, 17), (46, 17)], code := (.two .nil (.two (.join ⟨[], [(20, .v Yl1)]⟩ .nil .nil) (.two .nil (.two .nil (.join ⟨[5, 6], [(5, .v Yl7)]⟩ (.two .nil (.loop ⟨[5, 6, 7], [(5, .v Yl7), (6, .bx 3 [Yl0]), (7, .v Yl0)]⟩ (.two .nil (.join ⟨[5, 6], [(5, .v Yl7), (6, .bx 3 [Yl0])]⟩ (.two .nil (.join ⟨[6, 8], [(6, .bx 3 [Yl0]), (8, .v Yl6)]⟩ (.two .nil (.loop ⟨[6, 8, 9], [(6, .bx 3 [Yl0]), (8, .v Yl6), (9, .v Yl0)]⟩ (.two .nil (.join ⟨[6, 8], [(6, .bx 3 [Yl0]), (8, .v Yl6)]⟩ (.two .nil (.join ⟨[6, 10], [(6, .bx 3 [Yl0]), (10, .v Yl5)]⟩ (.two .nil (.loop ⟨[6, 10, 11], [(6, .bx 3 [Yl0]), (10, .v Yl5), (11, .v Yl0)]⟩ (.two .nil (.two (.two .nil (.join ⟨[12], [(12, .v Yl0)]⟩ .nil .nil)) .nil)))) .nil)) .nil)))) .nil)) .nil)))) .nil))))) } }
noncomputable def i_spec_SchemaOk : Inst := { f := 65, fn := Tryz.f65, n := 48, pds := [.rd Yv3], caps := [], res := [Yl1], h := { ca := [(18, 14), (26, 15), (44, 16)], code := (.two .nil (.two .nil (.join ⟨[2], [(2, .v Yl1)]⟩ (.two .nil (.loop ⟨[2, 3], [(2, .v Yl1), (3, .v Yl0)]⟩ (.two .nil (.two (.join ⟨[], [(47, .v Yl1)]⟩ .nil .nil) .nil)))) .nil))) } }
noncomputable def i_spec_WordOk : Inst := { f := 110, fn := Tryz.f110, n := 41, pds := [.rd .str], caps := [], res := [Yl1], h := { ca := [(6, 15)], code := (.two .nil (.two (.join ⟨[], [(12, .v Yl1)]⟩ .nil .nil) (.join ⟨[2], [(2, .v Yl1)]⟩ (.two .nil (.loop ⟨[2, 3], [(2, .v Yl1), (3, .v Yl0)]⟩ (.two .nil (.two (.join ⟨[], [(40, .v Yl1)]⟩ .nil .nil) .nil)))) .nil))) } }
noncomputable def i_spec_l01In : Inst := { f := 66, fn := Tryz.f66, n := 15, pds := [.rd Yv1, .rd Yv1, .rd Yv1], caps := [], res := [Yl1], h := { code := (.two .nil (.join ⟨[6], [(6, .v Yl1)]⟩ .nil .nil)) } }
noncomputable def i_spec_l01Less : Inst := { f := 111, fn := Tryz.f111, n := 37, pds := [.rd .str, .rd .str], caps := [], res := [Yl1], h := { code := (.two .nil (.join ⟨[4], [(4, .v Yl1)]⟩ (.two .nil (.loop ⟨[4, 5], [(4, .v Yl1), (5, .v Yl0)]⟩ (.two (.join ⟨[], [(15, .v Yl1)]⟩ .nil .nil) .nil))) .nil)) } }
noncomputable def i_spec_l13Next : Inst := { f := 67, fn := Tryz.f67, n := 14, pds := [.pt true 3 [Yl0]], caps := [], res := [Yl0], h := { code := .nil } }
noncomputable def i_spec_EvalPlan : Inst := { f := 30, fn := Tryz.f30, n := 43, pds := [.rd Yv3, .rd Yv7, .rd Yv6], caps := [], res := [Yl6, Yl0], h := { ca := [(13, 19), (18, 22), (36, 32), (42, 42)], code := (.two .nil (.two (.join ⟨[], [(20, .v Yl1)]⟩ .nil .nil) (.join ⟨[6, 7], [(6, .v Yl6), (7, .v Yl0)]⟩ (.two .nil (.loop ⟨[6, 7, 8], [(6, .v Yl6), (7, .v Yl0), (8, .v Yl0)]⟩ .nil)) .nil))) } }
noncomputable def i_spec_StoreOk : Inst := { f := 61, fn := Tryz.f61, n := 77, pds := [.rd Yv3, .rd Yv7], caps := [], res := [Yl1], h := { ca := [(9, 13), (75, 20)], code := (.two .nil (.two (.join ⟨[], [(17, .v Yl1)]⟩ .nil .nil) (.join ⟨[4], [(4, .v Yl1)]⟩ (.two .nil (.loop ⟨[4, 5], [(4, .v Yl1), (5, .v Yl0)]⟩ (.two .nil (.join ⟨[4], [(4, .v Yl1)]⟩ (.two .nil (.two .nil (.loop ⟨[4, 6], [(4, .v Yl1), (6, .v Yl0)]⟩ (.two .nil (.join ⟨[4], [(4, .v Yl1)]⟩ (.two .nil (.two .nil (.loop ⟨[4, 7], [(4, .v Yl1), (7, .v Yl0)]⟩ .nil))) .nil))))) .nil)))) .nil))) } }
noncomputable def i_spec_l04Value : Inst := { f := 103, fn := Tryz.f103, n := 9, pds := [.rd Yv1], caps := [], res := [Yl1], h := { ca := [(4, 21)], code := (.two .nil (.join ⟨[2], [(2, .v Yl1)]⟩ .nil .nil)) } }
noncomputable def i_spec_l01Number : Inst := { f := 151, fn := Tryz.f151, n := 5, pds := [.rd Yv1], caps := [], res := [Yl1], h := { ca := [(4, 15)], code := .nil } }
noncomputable def i_spec_TypedOk : Inst := { f := 62, fn := Tryz.f62, n := 9, pds := [.rd Yv3, .rd Yv6], caps := [], res := [Yl1], h := { ca := [(7, 23)], code := .nil } }
noncomputable def i_spec_WidthOf : Inst := { f := 104, fn := Tryz.f104, n := 16, pds := [.rd Yv3, .rd Yv6], caps := [], res := [Yl0], h := { ca := [(6, 13), (10, 24), (15, 29)], code := (.two .nil (.two (.join ⟨[], [(12, .v Yl1)]⟩ .nil .nil) .nil)) } }
noncomputable def i_spec_PlanOk : Inst := { f := 88, fn := Tryz.f88, n := 31, pds := [.rd Yv6], caps := [], res := [Yl1], h := { ca := [(8, 15), (20, 25), (24, 27)], code := (.two .nil (.two .nil (.join ⟨[2], [(2, .v Yl1)]⟩ (.two .nil (.loop ⟨[2, 3], [(2, .v Yl1), (3, .v Yl0)]⟩ .nil)) .nil))) } }
noncomputable def i_spec_NodeOk : Inst := { f := 143, fn := Tryz.f143, n := 186, pds := [.rd Yv0], caps := [], res := [Yl1], h := { ca := [(39, 15), (49, 14), (69, 26), (73, 15), (78, 21), (109, 26), (114, 15), (134, 26), (138, 26), (149, 26), (168, 15)], code := (.two .nil (.two (.join ⟨[], [(42, .v Yl1)]⟩ .nil .nil) (.join ⟨[2], [(2, .v Yl1)]⟩ (.two .nil (.two .nil (.two (.join ⟨[2], [(2, .v Yl1)]⟩ .nil .nil) (.two .nil (.two (.join ⟨[2], [(2, .v Yl1)]⟩ .nil .nil) (.two .nil (.two (.join ⟨[2], [(2, .v Yl1)]⟩ (.two .nil (.loop ⟨[2, 3], [(2, .v Yl1), (3, .v Yl0)]⟩ .nil)) (.join ⟨[2], [(2, .v Yl1)]⟩ .nil .nil)) (.two .nil (.two (.join ⟨[2], [(2, .v Yl1)]⟩ .nil .nil) (.two .nil (.two (.join ⟨[2], [(2, .v Yl1)]⟩ .nil .nil) (.two .nil (.two (.join ⟨[2], [(2, .v Yl1)]⟩ .nil .nil) (.join ⟨[], [(170, .v Yl1)]⟩ .nil (.two (.join ⟨[2], [(2, .v Yl1)]⟩ .nil .nil) .nil))))))))))))))) .nil))) } }
noncomputable def i_spec_l02Col : Inst := { f := 171, fn := Tryz.f171, n := 5, pds := [.rd Yv1], caps := [], res := [Yl1], h := { ca := [(4, 15)], code := .nil } }
noncomputable def i_spec_l02End : Inst := { f := 86, fn := Tryz.f86, n := 51, pds := [.rd Yv6, .rd Yv1, .rd Yv1], caps := [], res := [Yl0, Yl0], h := { ca := [(29, 28), (38, 27)], code := (.two .nil (.two (.join ⟨[], [(20, .v Yl1)]⟩ .nil .nil) (.two .nil (.two .nil (.join ⟨[6, 7, 8, 9], [(6, .v Yl0), (7, .v Yl0), (8, .v Yl0), (9, .v Yl0)]⟩ (.two .nil (.loop ⟨[6, 7, 8, 9, 10], [(6, .v Yl0), (7, .v Yl0), (8, .v Yl0), (9, .v Yl0), (10, .v Yl0)]⟩ (.two .nil (.join ⟨[6, 7, 8, 9], [(6, .v Yl0), (7, .v Yl0), (8, .v Yl0), (9, .v Yl0)]⟩ .nil .nil)))) .nil))))) } }
noncomputable def i_spec_ArityOf : Inst := { f := 142, fn := Tryz.f142, n := 15, pds := [.rd Yv1], caps := [], res := [Yl0], h := { code := (.two .nil (.two (.two .nil (.two .nil (.two .nil (.join ⟨[], [(6, .v Yl1)]⟩ .nil (.two .nil (.join ⟨[], [(9, .v Yl1)]⟩ .nil .nil)))))) .nil)) } }
noncomputable def i_spec_l03Width : Inst := { f := 141, fn := Tryz.f141, n := 131, pds := [.rd Yv3, .rd Yv6, .rd Yv1], caps := [], res := [Yl0], h := { al := [23, 30, 61, 79, 90, 97, 103, 106, 112, 115, 121, 124, 128], ca := [(21, 30), (34, 29), (48, 31)], code := (.two .nil (.two .nil (.two .nil (.two .nil (.join ⟨[6, 8], [(6, .v Yl0), (8, .v Yl5)]⟩ (.two .nil (.loop ⟨[6, 8, 10], [(6, .v Yl0), (8, .v Yl5), (10, .v Yl0)]⟩ .nil)) (.join ⟨[6], [(6, .v Yl0)]⟩ (.two .nil (.two .nil (.two .nil (.join ⟨[], [(56, .v Yl1)]⟩ .nil (.two .nil (.two .nil (.two (.join ⟨[6], [(6, .v Yl0)]⟩ (.two .nil (.loop ⟨[6, 13], [(6, .v Yl0), (13, .v Yl0)]⟩ .nil)) .nil) (.two .nil (.two (.two (.join ⟨[], [(111, .v Yl1)]⟩ .nil .nil) .nil) .nil))))))))) .nil)))))) } }
noncomputable def i_spec_l02Kids : Inst := { f := 98, fn := Tryz.f98, n := 32, pds := [.rd Yv6, .rd Yv1], caps := [], res := [Yl5], h := { ca := [(17, 28), (28, 27)], code := (.two .nil (.two .nil (.two .nil (.join ⟨[5, 6], [(5, .v Yl5)]⟩ (.two .nil (.loop ⟨[5, 6, 7], [(5, .v Yl5), (6, .v Yl0), (7, .v Yl0)]⟩ .nil)) .nil)))) } }
noncomputable def i_spec_l03Find : Inst := { f := 99, fn := Tryz.f99, n := 20, pds := [.rd Yv3, .rd .str], caps := [], res := [Yl0], h := { code := (.two .nil (.join ⟨[4], [(4, .v Yl0)]⟩ (.two .nil (.loop ⟨[4, 5], [(4, .v Yl0), (5, .v Yl0)]⟩ .nil)) .nil)) } }
noncomputable def i_spec_l04Eval : Inst := { f := 63, fn := Tryz.f63, n := 142, pds := [.rd Yv3, .rd Yv7, .rd Yv6, .rd Yv1], caps := [], res := [⟨false, false, Yv2⟩, Yl1], h := { al := [28, 37, 65, 72, 79, 82, 93, 102, 114, 120, 134], el := [66, 73, 80, 83, 95, 104, 115, 121, 135], hi := [23, 50], hs := [138], ca := [(26, 30), (41, 32), (59, 31), (68, 33), (75, 35), (85, 36), (117, 38), (137, 39)], code := (.two .nil (.two .nil (.two .nil (.two .nil (.join ⟨[8, 9, 11], [(8, .v Yl6), (9, .v Yl1), (11, .v ⟨true, false, Yv7⟩)]⟩ (.two .nil (.loop ⟨[8, 9, 11, 13], [(8, .v Yl6), (9, .v Yl1), (11, .v ⟨true, false, Yv7⟩), (13, .v Yl0)]⟩ .nil)) (.two .nil (.two (.two .nil (.two .nil (.two .nil (.two .nil (.two .nil (.two .nil (.two .nil (.two .nil (.two .nil (.two .nil (.two (.two .nil (.loop ⟨[16, 17], [(16, .v Yl2), (17, .v Yl0)]⟩ (.two .nil (.join ⟨[16], [(16, .v Yl2)]⟩ (.two .nil (.loop ⟨[16, 18], [(16, .v Yl2), (18, .v Yl0)]⟩ .nil)) .nil)))) .nil))))))))))) .nil))))))) } }
noncomputable def i_spec_l04Filter : Inst := { f := 105, fn := Tryz.f105, n := 32, pds := [.rd Yv0, .rd Yv2], caps := [], res := [Yl2], h := { hi := [7], ca := [(23, 34)], code := (.two .nil (.two .nil (.join ⟨[5], [(5, .v Yl2)]⟩ (.two .nil (.loop ⟨[5, 6], [(5, .v Yl2), (6, .v Yl0)]⟩ (.two .nil (.join ⟨[5], [(5, .v Yl2)]⟩ .nil .nil)))) .nil))) } }
noncomputable def i_spec_l04Holds : Inst := { f := 152, fn := Tryz.f152, n := 30, pds := [.rd Yv0, .rd Yv1], caps := [], res := [Yl1], h := { code := .nil } }
noncomputable def i_spec_l04Keep : Inst := { f := 106, fn := Tryz.f106, n := 43, pds := [.rd Yv0, .rd Yv2], caps := [], res := [Yl6], h := { code := (.two .nil (.two .nil (.join ⟨[5], [(5, .v Yl6)]⟩ (.two .nil (.loop ⟨[5, 6], [(5, .v Yl6), (6, .v Yl0)]⟩ (.two .nil (.join ⟨[5], [(5, .v Yl6)]⟩ (.two .nil (.join ⟨[7], [(7, .v Yl5)]⟩ (.two .nil (.loop ⟨[7, 8], [(7, .v Yl5), (8, .v Yl0)]⟩ .nil)) .nil)) .nil)))) .nil))) } }
noncomputable def i_spec_l04Join : Inst := { f := 107, fn := Tryz.f107, n := 77, pds := [.rd Yv0, .rd Yv2, .rd Yv2], caps := [], res := [Yl6], h := { ca := [(52, 37)], code := (.two .nil (.two .nil (.join ⟨[7], [(7, .v Yl6)]⟩ (.two .nil (.loop ⟨[7, 8], [(7, .v Yl6), (8, .v Yl0)]⟩ (.two .nil (.join ⟨[7], [(7, .v Yl6)]⟩ (.two .nil (.loop ⟨[7, 9], [(7, .v Yl6), (9, .v Yl0)]⟩ (.two .nil (.join ⟨[7], [(7, .v Yl6)]⟩ (.two .nil (.two (.join ⟨[], [(47, .v Yl1)]⟩ .nil .nil) (.two .nil (.join ⟨[11], [(11, .v Yl5)]⟩ (.two .nil (.loop ⟨[11, 12], [(11, .v Yl5), (12, .v Yl0)]⟩ .nil)) .nil)))) .nil)))) .nil)))) .nil))) } }
noncomputable def i_spec_l01Copy : Inst := { f := 82, fn := Tryz.f82, n := 20, pds := [.rd Yv4], caps := [], res := [Yl5], h := { code := (.two .nil (.two .nil (.join ⟨[3], [(3, .v Yl5)]⟩ (.two .nil (.loop ⟨[3, 4], [(3, .v Yl5), (4, .v Yl0)]⟩ .nil)) .nil))) } }
noncomputable def i_spec_l04Sort : Inst := { f := 108, fn := Tryz.f108, n := 70, pds := [.rd Yv0, .rd Yv2], caps := [], res := [Yl2], h := { al := [19, 35, 53], el := [37, 55], hi := [10, 17], code := (.two .nil (.two .nil (.join ⟨[5], [(5, .v Yl2)]⟩ (.two .nil (.loop ⟨[5, 6], [(5, .v Yl2), (6, .v Yl0)]⟩ (.two .nil (.join ⟨[5], [(5, .v Yl2)]⟩ (.two .nil (.two .nil (.join ⟨[7, 8], [(7, .v Yl2), (8, .v Yl1)]⟩ (.two .nil (.loop ⟨[7, 8, 9], [(7, .v Yl2), (8, .v Yl1), (9, .v Yl0)]⟩ (.two .nil (.two (.join ⟨[7, 8], [(7, .v Yl2), (8, .v Yl1)]⟩ (.join ⟨[], [(44, .v Yl1)]⟩ .nil .nil) .nil) .nil)))) (.join ⟨[7], [(7, .v Yl2)]⟩ .nil .nil)))) .nil)))) .nil))) } }
noncomputable def i_spec_l04Once : Inst := { f := 109, fn := Tryz.f109, n := 27, pds := [.rd Yv2], caps := [], res := [Yl2], h := { al := [12], hi := [5], ca := [(17, 40)], code := (.two .nil (.two .nil (.join ⟨[3], [(3, .v Yl2)]⟩ (.two .nil (.loop ⟨[3, 4], [(3, .v Yl2), (4, .v Yl0)]⟩ (.two .nil (.join ⟨[3], [(3, .v Yl2)]⟩ .nil .nil)))) .nil))) } }
noncomputable def i_spec_CountSame : Inst := { f := 153, fn := Tryz.f153, n := 22, pds := [.rd Yv2, .rd Yv4], caps := [], res := [Yl0], h := { ca := [(18, 41)], code := (.two .nil (.two .nil (.join ⟨[5], [(5, .v Yl0)]⟩ (.two .nil (.loop ⟨[5, 6], [(5, .v Yl0), (6, .v Yl0)]⟩ (.two .nil (.join ⟨[5], [(5, .v Yl0)]⟩ .nil .nil)))) .nil))) } }
noncomputable def i_spec_l02SameInts : Inst := { f := 176, fn := Tryz.f176, n := 26, pds := [.rd Yv4, .rd Yv4], caps := [], res := [Yl1], h := { code := (.two .nil (.two .nil (.join ⟨[4], [(4, .v Yl1)]⟩ (.two .nil (.loop ⟨[4, 5], [(4, .v Yl1), (5, .v Yl0)]⟩ .nil)) .nil))) } }
noncomputable def i_spec_l04Copy : Inst := { f := 64, fn := Tryz.f64, n := 21, pds := [.rd Yv2], caps := [], res := [Yl6], h := { ca := [(17, 37)], code := (.two .nil (.two .nil (.join ⟨[3], [(3, .v Yl6)]⟩ (.two .nil (.loop ⟨[3, 4], [(3, .v Yl6), (4, .v Yl0)]⟩ .nil)) .nil))) } }
noncomputable def i_spec_RowText : Inst := { f := 32, fn := Tryz.f32, n := 33, pds := [.rd Yv4], caps := [], res := [Yl3], h := { ca := [(30, 44)], code := (.two .nil (.two .nil (.two .nil (.join ⟨[3], [(3, .v Yl3)]⟩ (.two .nil (.loop ⟨[3, 4], [(3, .v Yl3), (4, .v Yl0)]⟩ (.two .nil (.join ⟨[3], [(3, .v Yl3)]⟩ (.join ⟨[3], [(3, .v Yl3)]⟩ .nil .nil) .nil)))) .nil)))) } }
noncomputable def i_spec_l01Num : Inst := { f := 68, fn := Tryz.f68, n := 31, pds := [.rd Yv1], caps := [], res := [Yl3], h := { code := (.two .nil (.two .nil (.two .nil (.two .nil (.join ⟨[0, 3], [(3, .v Yl3)]⟩ (.loop ⟨[0, 3], [(0, .v Yl0), (3, .v Yl3)]⟩ (.two .nil (.two .nil (.join ⟨[5], [(5, .v Yl0)]⟩ .nil .nil)))) .nil))))) } }
noncomputable def i_impl_FirstRow : Inst := { f := 10, fn := Tryz.f10, n := 25, pds := [.rd Yv3, .rd Yv6, .rd Yv1], caps := [], res := [Yl3], h := { al := [18, 21], ca := [(13, 46), (15, 51), (24, 103)], code := .nil } }
noncomputable def i_impl_StoreFrom : Inst := { f := 36, fn := Tryz.f36, n := 59, pds := [.rd Yv3, .rd Yv1], caps := [], res := [Yl7], h := { ca := [(13, 47), (17, 49), (30, 50), (39, 50)], code := (.two .nil (.two (.join ⟨[], [(19, .v Yl1)]⟩ .nil .nil) (.two .nil (.two .nil (.join ⟨[5, 6, 22], [(6, .v Yl7)]⟩ (.two .nil (.loop ⟨[5, 6, 22, 25], [(5, .fix (.eq 22)), (6, .v Yl7), (22, .bx 99 [Yl8]), (25, .v Yl0)]⟩ (.two .nil (.two .nil (.join ⟨[5, 6, 22], [(5, .fix (.eq 22)), (6, .v Yl7), (22, .bx 99 [Yl8])]⟩ (.two .nil (.two .nil (.join ⟨[5, 9, 22], [(5, .fix (.eq 22)), (9, .v Yl6), (22, .bx 99 [Yl8])]⟩ (.two .nil (.loop ⟨[5, 9, 22, 29, 32], [(5, .fix (.eq 22)), (9, .v Yl6), (22, .bx 99 [Yl8]), (32, .v Yl0)]⟩ (.two .nil (.two .nil (.join ⟨[5, 9, 22], [(5, .fix (.eq 22)), (9, .v Yl6), (22, .bx 99 [Yl8])]⟩ (.two .nil (.join ⟨[5, 10, 22], [(5, .fix (.eq 22)), (10, .v Yl5), (22, .bx 99 [Yl8])]⟩ (.two .nil (.loop ⟨[5, 10, 22, 36], [(5, .fix (.eq 22)), (10, .v Yl5), (22, .bx 99 [Yl8]), (36, .v Yl0)]⟩ (.two .nil (.two .nil (.two (.two .nil (.join ⟨[11], [(11, .v Yl0)]⟩ .nil .nil)) .nil))))) .nil)) .nil))))) .nil))) .nil))))) .nil))))) } }
noncomputable def i_impl_SchemaOk : Inst := { f := 74, fn := Tryz.f74, n := 41, pds := [.rd Yv3], caps := [], res := [Yl1], h := { ca := [(14, 48), (19, 49)], code := (.two .nil (.join ⟨[2], [(2, .v Yl1)]⟩ (.two .nil (.loop ⟨[2, 7], [(2, .v Yl1), (7, .v Yl0)]⟩ (.two .nil (.two .nil (.two (.two .nil (.join ⟨[], [(36, .v Yl1)]⟩ .nil .nil)) .nil))))) .nil)) } }
noncomputable def i_impl_WordOk : Inst := { f := 127, fn := Tryz.f127, n := 38, pds := [.rd .str], caps := [], res := [Yl1], h := { ca := [(37, 49)], code := (.two .nil (.join ⟨[2], [(2, .v Yl1)]⟩ (.two .nil (.loop ⟨[2, 8], [(2, .v Yl1), (8, .v Yl0)]⟩ (.two .nil (.two .nil (.two (.two .nil (.two .nil (.join ⟨[], [(5, .v Yl1)]⟩ .nil (.join ⟨[], [(33, .v Yl1)]⟩ .nil .nil)))) .nil))))) .nil)) } }
noncomputable def i_impl_in : Inst := { f := 75, fn := Tryz.f75, n := 15, pds := [.rd Yv1, .rd Yv1, .rd Yv1], caps := [], res := [Yl1], h := { code := (.two .nil (.join ⟨[6], [(6, .v Yl1)]⟩ .nil .nil)) } }
noncomputable def i_impl_stream_next : Inst := { f := 76, fn := Tryz.f76, n := 17, pds := [.pt true 99 [Yl8]], caps := [], res := [Yl0], h := { code := .nil } }
noncomputable def i_impl_EvalPlan : Inst := { f := 35, fn := Tryz.f35, n := 35, pds := [.rd Yv3, .rd Yv7, .rd Yv6], caps := [], res := [Yl6, Yl0], h := { ca := [(12, 52), (17, 58), (22, 80), (28, 84), (34, 101)], code := (.two .nil (.two (.join ⟨[], [(23, .v Yl1)]⟩ .nil .nil) .nil)) } }
noncomputable def i_impl_StoreOk : Inst := { f := 70, fn := Tryz.f70, n := 49, pds := [.rd Yv3, .rd Yv7], caps := [], res := [Yl1], h := { ca := [(10, 47), (45, 53)], code := (.two .nil (.two (.join ⟨[], [(18, .v Yl1)]⟩ .nil .nil) (.join ⟨[4], [(4, .v Yl1)]⟩ (.two .nil (.loop ⟨[4, 21], [(4, .v Yl1), (21, .v Yl0)]⟩ (.two .nil (.two .nil (.join ⟨[4], [(4, .v Yl1)]⟩ (.two .nil (.two .nil (.two .nil (.loop ⟨[4, 31], [(4, .v Yl1), (31, .v Yl0)]⟩ (.two .nil (.two .nil (.two (.two .nil (.join ⟨[], [(46, .v Yl1)]⟩ .nil .nil)) .nil))))))) .nil))))) .nil))) } }
noncomputable def i_slices_ContainsFunc_Lint_impl_StoreOk_1 : Inst := { f := 112, fn := Tryz.f112, n := 9, pds := [.rd Yv4, .fn 113 []], caps := [], res := [Yl1], h := { ca := [(7, 54)], code := .nil } }
noncomputable def i_slices_IndexFunc_Lint_impl_StoreOk_1 : Inst := { f := 154, fn := Tryz.f154, n := 19, pds := [.rd Yv4, .fn 113 []], caps := [], res := [Yl0], h := { ca := [(16, 55)], code := (.two .nil (.join ⟨[4], [(4, .v Yl0)]⟩ (.two .nil (.loop ⟨[4, 8], [(4, .v Yl0), (8, .v Yl0)]⟩ .nil)) .nil)) } }
noncomputable def i_impl_StoreOk_1 : Inst := { f := 113, fn := Tryz.f113, n := 6, pds := [.rd Yv1], caps := [], res := [Yl1], h := { ca := [(4, 56)], code := .nil } }
noncomputable def i_impl_isValue : Inst := { f := 114, fn := Tryz.f114, n := 9, pds := [.rd Yv1], caps := [], res := [Yl1], h := { ca := [(4, 57)], code := (.two .nil (.join ⟨[2], [(2, .v Yl1)]⟩ .nil .nil)) } }
noncomputable def i_impl_isNum : Inst := { f := 155, fn := Tryz.f155, n := 5, pds := [.rd Yv1], caps := [], res := [Yl1], h := { ca := [(4, 49)], code := .nil } }
noncomputable def i_impl_TypedOk : Inst := { f := 56, fn := Tryz.f56, n := 9, pds := [.rd Yv3, .rd Yv6], caps := [], res := [Yl1], h := { ca := [(7, 59)], code := .nil } }
noncomputable def i_impl_WidthOf : Inst := { f := 100, fn := Tryz.f100, n := 16, pds := [.rd Yv3, .rd Yv6], caps := [], res := [Yl0], h := { ca := [(6, 47), (10, 60), (15, 74)], code := (.two .nil (.two (.join ⟨[], [(12, .v Yl1)]⟩ .nil .nil) .nil)) } }
noncomputable def i_impl_PlanOk : Inst := { f := 94, fn := Tryz.f94, n := 16, pds := [.rd Yv6], caps := [], res := [Yl1], h := { ca := [(5, 49), (9, 61), (12, 72)], code := (.two .nil (.two (.join ⟨[], [(10, .v Yl1)]⟩ .nil .nil) .nil)) } }
noncomputable def i_slices_ContainsFunc_LimplNode_impl_PlanOk_1 : Inst := { f := 115, fn := Tryz.f115, n := 9, pds := [.rd Yv6, .fn 148 []], caps := [], res := [Yl1], h := { ca := [(7, 62)], code := .nil } }
noncomputable def i_slices_IndexFunc_LimplNode_impl_PlanOk_1 : Inst := { f := 156, fn := Tryz.f156, n := 19, pds := [.rd Yv6, .fn 148 []], caps := [], res := [Yl0], h := { ca := [(16, 63)], code := (.two .nil (.join ⟨[4], [(4, .v Yl0)]⟩ (.two .nil (.loop ⟨[4, 8], [(4, .v Yl0), (8, .v Yl0)]⟩ .nil)) .nil)) } }
noncomputable def i_impl_PlanOk_1 : Inst := { f := 148, fn := Tryz.f148, n := 6, pds := [.rd Yv0], caps := [], res := [Yl1], h := { ca := [(4, 64)], code := .nil } }
noncomputable def i_impl_NodeOk : Inst := { f := 149, fn := Tryz.f149, n := 116, pds := [.rd Yv0], caps := [], res := [Yl1], h := { ca := [(13, 48), (19, 65), (23, 49), (29, 57), (53, 66), (64, 49), (68, 67), (76, 65), (80, 65), (88, 65), (94, 49), (102, 66), (114, 70)], code := (.two .nil (.two .nil (.two .nil (.two .nil (.join ⟨[3, 4, 6], [(3, .bx 61 [Yl0, Yl3, Yl0, Yl0, Yl0, Yl1, Yl4]), (4, .v Yl1)]⟩ (.two .nil (.two .nil (.two .nil (.two .nil (.two (.join ⟨[4], [(4, .v Yl1)]⟩ .nil (.join ⟨[4], [(4, .v Yl1)]⟩ .nil .nil)) (.two .nil (.two (.join ⟨[4], [(4, .v Yl1)]⟩ .nil .nil) (.two .nil (.two (.join ⟨[4], [(4, .v Yl1)]⟩ .nil .nil) (.two .nil (.two .nil (.two .nil (.two (.join ⟨[4], [(4, .v Yl1)]⟩ .nil .nil) (.join ⟨[], [(107, .v Yl1)]⟩ .nil .nil)))))))))))))) (.join ⟨[2], [(2, .v Yl1)]⟩ .nil .nil)))))) } }
noncomputable def i_impl_isCol : Inst := { f := 173, fn := Tryz.f173, n := 5, pds := [.rd Yv1], caps := [], res := [Yl1], h := { ca := [(4, 49)], code := .nil } }
noncomputable def i_impl_isSlot : Inst := { f := 174, fn := Tryz.f174, n := 5, pds := [.rd Yv1], caps := [], res := [Yl1], h := { ca := [(4, 49)], code := .nil } }
noncomputable def i_slices_ContainsFunc_Lint_impl_NodeOk_1 : Inst := { f := 112, fn := Tryz.f112, n := 9, pds := [.rd Yv4, .fn 175 []], caps := [], res := [Yl1], h := { ca := [(7, 68)], code := .nil } }
noncomputable def i_slices_IndexFunc_Lint_impl_NodeOk_1 : Inst := { f := 154, fn := Tryz.f154, n := 19, pds := [.rd Yv4, .fn 175 []], caps := [], res := [Yl0], h := { ca := [(16, 69)], code := (.two .nil (.join ⟨[4], [(4, .v Yl0)]⟩ (.two .nil (.loop ⟨[4, 8], [(4, .v Yl0), (8, .v Yl0)]⟩ .nil)) .nil)) } }
noncomputable def i_impl_NodeOk_1 : Inst := { f := 175, fn := Tryz.f175, n := 6, pds := [.rd Yv1], caps := [], res := [Yl1], h := { ca := [(4, 65)], code := .nil } }
noncomputable def i_impl_sameNode : Inst := { f := 48, fn := Tryz.f48, n := 52, pds := [.rd Yv0, .rd Yv0], caps := [], res := [Yl1], h := { ca := [(50, 71)], code := (.two .nil (.join ⟨[4], [(4, .v Yl1)]⟩ .nil .nil)) } }
noncomputable def i_slices_Equal_Lint : Inst := { f := 95, fn := Tryz.f95, n := 26, pds := [.rd Yv4, .rd Yv4], caps := [], res := [Yl1], h := { code := (.two .nil (.two .nil (.join ⟨[4], [(4, .v Yl1)]⟩ (.two .nil (.loop ⟨[4, 13], [(4, .v Yl1), (13, .v Yl0)]⟩ .nil)) .nil))) } }
noncomputable def i_impl_end : Inst := { f := 93, fn := Tryz.f93, n := 35, pds := [.rd Yv6, .rd Yv1, .rd Yv1], caps := [], res := [Yl0], h := { ca := [(23, 73), (30, 72)], code := (.two .nil (.two (.join ⟨[], [(15, .v Yl1)]⟩ .nil .nil) (.two .nil (.join ⟨[6, 7], [(6, .v Yl0), (7, .v Yl0)]⟩ (.two .nil (.loop ⟨[6, 7, 24], [(6, .v Yl0), (7, .v Yl0), (24, .v Yl0)]⟩ .nil)) .nil)))) } }
noncomputable def i_impl_ArityOf : Inst := { f := 147, fn := Tryz.f147, n := 15, pds := [.rd Yv1], caps := [], res := [Yl0], h := { code := (.two .nil (.two (.two .nil (.two .nil (.two .nil (.join ⟨[], [(6, .v Yl1)]⟩ .nil (.two .nil (.join ⟨[], [(9, .v Yl1)]⟩ .nil .nil)))))) .nil)) } }
noncomputable def i_impl_width : Inst := { f := 145, fn := Tryz.f145, n := 117, pds := [.rd Yv3, .rd Yv6, .rd Yv1], caps := [], res := [Yl0], h := { al := [56, 65, 76, 83, 89, 92, 98, 101, 107, 110, 114], ca := [(15, 75), (24, 74), (43, 76), (64, 79)], code := (.two .nil (.two .nil (.join ⟨[6, 7], [(6, .v Yl0), (7, .v Yl5)]⟩ (.two .nil (.loop ⟨[6, 7, 17], [(6, .v Yl0), (7, .v Yl5), (17, .v Yl0)]⟩ .nil)) (.two .nil (.join ⟨[6], [(6, .v Yl0)]⟩ (.two .nil (.two .nil (.two .nil (.join ⟨[], [(51, .v Yl1)]⟩ .nil (.two .nil (.two .nil (.two .nil (.two .nil (.two (.two (.join ⟨[], [(97, .v Yl1)]⟩ .nil .nil) .nil) .nil))))))))) .nil))))) } }
noncomputable def i_impl_children : Inst := { f := 117, fn := Tryz.f117, n := 26, pds := [.rd Yv6, .rd Yv1], caps := [], res := [Yl5], h := { ca := [(14, 73), (23, 72)], code := (.two .nil (.two .nil (.two .nil (.join ⟨[5, 6], [(5, .v Yl5)]⟩ (.two .nil (.loop ⟨[5, 6, 15], [(5, .v Yl5), (6, .v Yl0), (15, .v Yl0)]⟩ .nil)) .nil)))) } }
noncomputable def i_impl_tableAt : Inst := { f := 118, fn := Tryz.f118, n := 8, pds := [.rd Yv3, .rd .str], caps := [], res := [Yl0], h := { ca := [(7, 77)], code := .nil } }
noncomputable def i_slices_IndexFunc_LimplTable_impl_tableAt_1 : Inst := { f := 157, fn := Tryz.f157, n := 19, pds := [.rd Yv3, .fn 158 [(true, 9, [Yl3])]], caps := [], res := [Yl0], h := { ca := [(16, 78)], code := (.two .nil (.join ⟨[1, 4, 19], [(4, .v Yl0), (19, .bx 9 [Yl3])]⟩ (.two .nil (.loop ⟨[1, 4, 8, 19], [(1, .fix (.fn 158 [19])), (4, .v Yl0), (8, .v Yl0), (19, .bx 9 [Yl3])]⟩ .nil)) .nil)) } }
noncomputable def i_impl_tableAt_1 : Inst := { f := 158, fn := Tryz.f158, n := 8, pds := [.rd Yv5], caps := [(true, 9, [Yl3])], res := [Yl1], h := { code := .nil } }
noncomputable def i_slices_Max_Lint : Inst := { f := 172, fn := Tryz.f172, n := 25, pds := [.rd Yv4], caps := [], res := [Yl0], h := { code := (.two .nil (.join ⟨[], []⟩ .nil (.two .nil (.join ⟨[3], [(3, .v Yl0)]⟩ (.two .nil (.loop ⟨[3, 4], [(3, .v Yl0), (4, .v Yl0)]⟩ .nil)) .nil)))) } }
noncomputable def i_impl_hasSlot : Inst := { f := 71, fn := Tryz.f71, n := 5, pds := [.rd Yv6], caps := [], res := [Yl1], h := { ca := [(4, 81)], code := .nil } }
noncomputable def i_slices_ContainsFunc_LimplNode_impl_hasSlot_1 : Inst := { f := 115, fn := Tryz.f115, n := 9, pds := [.rd Yv6, .fn 116 []], caps := [], res := [Yl1], h := { ca := [(7, 82)], code := .nil } }
noncomputable def i_slices_IndexFunc_LimplNode_impl_hasSlot_1 : Inst := { f := 156, fn := Tryz.f156, n := 19, pds := [.rd Yv6, .fn 116 []], caps := [], res := [Yl0], h := { ca := [(16, 83)], code := (.two .nil (.join ⟨[4], [(4, .v Yl0)]⟩ (.two .nil (.loop ⟨[4, 8], [(4, .v Yl0), (8, .v Yl0)]⟩ .nil)) .nil)) } }
noncomputable def i_impl_hasSlot_1 : Inst := { f := 116, fn := Tryz.f116, n := 5, pds := [.rd Yv0], caps := [], res := [Yl1], h := { code := .nil } }
noncomputable def i_impl_eval : Inst := { f := 72, fn := Tryz.f72, n := 221, pds := [.rd Yv3, .rd Yv7, .rd Yv6, .rd Yv1], caps := [], res := [⟨false, false, Yv2⟩, Yl1], h := { al := [70, 92, 122, 130, 168, 171, 178, 182, 187, 192, 200, 208], el := [71, 93, 123, 131, 169, 172, 179, 188, 193, 201], hi := [10, 16, 117, 162], hs := [217], ca := [(32, 75), (43, 84), (65, 76), (84, 85), (161, 86), (175, 88), (181, 90), (184, 91), (210, 100)], code := (.two .nil (.two .nil (.join ⟨[8, 9, 10], [(8, .v Yl6), (9, .v Yl1), (10, .v ⟨true, false, Yv7⟩)]⟩ (.two .nil (.loop ⟨[8, 9, 10, 34], [(8, .v Yl6), (9, .v Yl1), (10, .v ⟨true, false, Yv7⟩), (34, .v Yl0)]⟩ .nil)) (.two .nil (.two .nil (.two (.two .nil (.two .nil (.two .nil (.two .nil (.two (.two .nil (.loop ⟨[16, 74], [(16, .v Yl2), (74, .v Yl0)]⟩ (.two .nil (.two .nil (.join ⟨[16], [(16, .v Yl2)]⟩ .nil .nil))))) (.two .nil (.two (.two .nil (.loop ⟨[16, 96], [(16, .v Yl2), (96, .v Yl0)]⟩ (.two .nil (.two .nil (.join ⟨[16], [(16, .v Yl2)]⟩ (.two .nil (.two .nil (.join ⟨[21], [(21, .v Yl5)]⟩ (.two .nil (.loop ⟨[21, 103], [(21, .v Yl5), (103, .v Yl0)]⟩ .nil)) .nil))) .nil))))) (.two .nil (.two (.two .nil (.loop ⟨[16, 126], [(16, .v Yl2), (126, .v Yl0)]⟩ (.two .nil (.two .nil (.join ⟨[16], [(16, .v Yl2)]⟩ (.two .nil (.two .nil (.loop ⟨[16, 134], [(16, .v Yl2), (134, .v Yl0)]⟩ (.two .nil (.two .nil (.join ⟨[16], [(16, .v Yl2)]⟩ (.two .nil (.join ⟨[], [(156, .v Yl1)]⟩ .nil .nil)) .nil)))))) .nil))))) (.two .nil (.two .nil (.two .nil (.two .nil (.two .nil (.two .nil (.two .nil (.two (.two .nil (.loop ⟨[16, 204], [(16, .v Yl2), (204, .v Yl0)]⟩ (.two .nil (.two .nil (.join ⟨[16], [(16, .v Yl2)]⟩ .nil .nil))))) .nil))))))))))))))))) .nil)))))) } }
noncomputable def i_impl_Node_keeps : Inst := { f := 119, fn := Tryz.f119, n := 35, pds := [.rd Yv0, .rd Yv1], caps := [], res := [Yl1], h := { code := (.two .nil (.two (.two .nil (.two .nil (.two .nil (.two .nil (.two .nil (.two .nil (.two (.join ⟨[4], [(4, .v Yl1)]⟩ .nil .nil) .nil))))))) (.join ⟨[4], [(4, .v Yl1)]⟩ .nil .nil))) } }
noncomputable def i_slices_Concat_Lint : Inst := { f := 120, fn := Tryz.f120, n := 36, pds := [.rd Yv2], caps := [], res := [Yl5], h := { ca := [(24, 87)], code := (.two .nil (.two .nil (.join ⟨[3], [(3, .v Yl0)]⟩ (.two .nil (.loop ⟨[3, 11], [(3, .v Yl0), (11, .v Yl0)]⟩ (.two .nil (.two .nil (.join ⟨[3], [(3, .v Yl0)]⟩ .nil .nil))))) (.two .nil (.join ⟨[6], [(6, .v Yl5)]⟩ (.two .nil (.loop ⟨[6, 27], [(6, .v Yl5), (27, .v Yl0)]⟩ .nil)) .nil))))) } }
noncomputable def i_slices_Grow_Lint : Inst := { f := 159, fn := Tryz.f159, n := 27, pds := [.ow true 3 Yv1, .rd Yv1], caps := [], res := [Yl5], h := { tk := [25], code := .nil } }
noncomputable def i_slices_Concat_LLint : Inst := { f := 121, fn := Tryz.f121, n := 36, pds := [.rd Yv7], caps := [], res := [Yl2], h := { hi := [24], ca := [(24, 89)], code := (.two .nil (.two .nil (.join ⟨[3], [(3, .v Yl0)]⟩ (.two .nil (.loop ⟨[3, 11], [(3, .v Yl0), (11, .v Yl0)]⟩ (.two .nil (.two .nil (.join ⟨[3], [(3, .v Yl0)]⟩ .nil .nil))))) (.two .nil (.join ⟨[6], [(6, .v Yl2)]⟩ (.two .nil (.loop ⟨[6, 27], [(6, .v Yl2), (27, .v Yl0)]⟩ .nil)) .nil))))) } }
noncomputable def i_slices_Grow_LLint : Inst := { f := 160, fn := Tryz.f160, n := 27, pds := [.ow true 36 Yv4, .rd Yv1], caps := [], res := [Yl2], h := { tk := [25], code := .nil } }
noncomputable def i_slices_Clone_LLint : Inst := { f := 122, fn := Tryz.f122, n := 8, pds := [.rd Yv2], caps := [], res := [Yl2], h := { hi := [5], code := .nil } }
noncomputable def i_slices_SortStableFunc_LLint_impl_eval_1 : Inst := { f := 123, fn := Tryz.f123, n := 9, pds := [.mu true false 36 Yv4, .fn 124 [(true, 61, [Yl0, Yl3, Yl0, Yl0, Yl0, Yl1, Yl4])]], caps := [], res := [], h := { ca := [(8, 92)], code := .nil } }
noncomputable def i_slices_stableCmpFunc_Lint_impl_eval_1 : Inst := { f := 161, fn := Tryz.f161, n := 63, pds := [.mu true false 36 Yv4, .rd Yv1, .fn 124 [(true, 61, [Yl0, Yl3, Yl0, Yl0, Yl0, Yl1, Yl4])]], caps := [], res := [], h := { ca := [(18, 93), (27, 93), (43, 97), (60, 97)], code := (.two .nil (.two .nil (.join ⟨[0, 2, 7, 8, 63, 64], [(0, .fix (.eq 63)), (2, .fix (.fn 124 [64])), (7, .v Yl0), (63, .v Yl2), (64, .bx 61 [Yl0, Yl3, Yl0, Yl0, Yl0, Yl1, Yl4])]⟩ (.loop ⟨[0, 2, 7, 8, 63, 64], [(0, .fix (.eq 63)), (2, .fix (.fn 124 [64])), (7, .v Yl0), (8, .v Yl0), (63, .v Yl2), (64, .bx 61 [Yl0, Yl3, Yl0, Yl0, Yl0, Yl1, Yl4])]⟩ .nil) (.two .nil (.loop ⟨[0, 2, 6, 7, 23, 26, 63, 64], [(0, .fix (.eq 63)), (2, .fix (.fn 124 [64])), (6, .v Yl0), (63, .v Yl2), (64, .bx 61 [Yl0, Yl3, Yl0, Yl0, Yl0, Yl1, Yl4])]⟩ (.two .nil (.two .nil (.join ⟨[0, 2, 7, 8, 63, 64], [(0, .fix (.eq 63)), (2, .fix (.fn 124 [64])), (7, .v Yl0), (63, .v Yl2), (64, .bx 61 [Yl0, Yl3, Yl0, Yl0, Yl0, Yl1, Yl4])]⟩ (.loop ⟨[0, 2, 7, 8, 63, 64], [(0, .fix (.eq 63)), (2, .fix (.fn 124 [64])), (7, .v Yl0), (8, .v Yl0), (63, .v Yl2), (64, .bx 61 [Yl0, Yl3, Yl0, Yl0, Yl0, Yl1, Yl4])]⟩ .nil) (.join ⟨[0, 2, 63, 64], [(0, .fix (.eq 63)), (2, .fix (.fn 124 [64])), (63, .v Yl2), (64, .bx 61 [Yl0, Yl3, Yl0, Yl0, Yl0, Yl1, Yl4])]⟩ .nil .nil))))))))) } }
noncomputable def i_slices_insertionSortCmpFunc_Lint_impl_eval_1 : Inst := { f := 177, fn := Tryz.f177, n := 53, pds := [.mu true false 36 Yv4, .rd Yv1, .rd Yv1, .fn 124 [(true, 61, [Yl0, Yl3, Yl0, Yl0, Yl0, Yl1, Yl4])]], caps := [], res := [], h := { el := [25, 30], ca := [(32, 94)], code := (.two .nil (.loop ⟨[0, 3, 8, 53, 54], [(0, .fix (.eq 53)), (3, .fix (.fn 124 [54])), (8, .v Yl0), (53, .v Yl2), (54, .bx 61 [Yl0, Yl3, Yl0, Yl0, Yl0, Yl1, Yl4])]⟩ (.two .nil (.join ⟨[0, 3, 53, 54], [(0, .fix (.eq 53)), (3, .fix (.fn 124 [54])), (53, .v Yl2), (54, .bx 61 [Yl0, Yl3, Yl0, Yl0, Yl0, Yl1, Yl4])]⟩ (.two .nil (.loop ⟨[0, 3, 9, 53, 54], [(0, .fix (.eq 53)), (3, .fix (.fn 124 [54])), (9, .v Yl0), (53, .v Yl2), (54, .bx 61 [Yl0, Yl3, Yl0, Yl0, Yl0, Yl1, Yl4])]⟩ (.two (.join ⟨[3, 54], [(3, .fix (.fn 124 [54])), (34, .v Yl1), (54, .bx 61 [Yl0, Yl3, Yl0, Yl0, Yl0, Yl1, Yl4])]⟩ .nil .nil) .nil))) .nil)))) } }
noncomputable def i_impl_eval_1 : Inst := { f := 124, fn := Tryz.f124, n := 17, pds := [.rd Yv4, .rd Yv4], caps := [(true, 61, [Yl0, Yl3, Yl0, Yl0, Yl0, Yl1, Yl4])], res := [Yl0], h := { ca := [(16, 95)], code := .nil } }
noncomputable def i_cmp_Compare_int : Inst := { f := 125, fn := Tryz.f125, n := 20, pds := [.rd Yv1, .rd Yv1], caps := [], res := [Yl0], h := { ca := [(8, 96), (10, 96)], code := .nil } }
noncomputable def i_cmp_isNaN_int : Inst := { f := 162, fn := Tryz.f162, n := 6, pds := [.rd Yv1], caps := [], res := [Yl1], h := { code := .nil } }
noncomputable def i_slices_symMergeCmpFunc_Lint_impl_eval_1 : Inst := { f := 178, fn := Tryz.f178, n := 220, pds := [.mu true false 36 Yv4, .rd Yv1, .rd Yv1, .rd Yv1, .fn 124 [(true, 61, [Yl0, Yl3, Yl0, Yl0, Yl0, Yl1, Yl4])]], caps := [], res := [], h := { el := [43, 47, 95, 99, 163, 167], ca := [(49, 94), (101, 94), (169, 94), (191, 98), (205, 97), (219, 97)], code := (.join ⟨[0, 4, 220, 221], [(0, .fix (.eq 220)), (4, .fix (.fn 124 [221])), (220, .v Yl2), (221, .bx 61 [Yl0, Yl3, Yl0, Yl0, Yl0, Yl1, Yl4])]⟩ (.two .nil (.two (.two .nil (.two .nil (.join ⟨[4, 10, 11, 221], [(10, .v Yl0), (221, .bx 61 [Yl0, Yl3, Yl0, Yl0, Yl0, Yl1, Yl4])]⟩ (.loop ⟨[4, 10, 11, 221], [(4, .fix (.fn 124 [221])), (10, .v Yl0), (11, .v Yl0), (221, .bx 61 [Yl0, Yl3, Yl0, Yl0, Yl0, Yl1, Yl4])]⟩ .nil) (.join ⟨[0, 220], [(220, .v Yl2)]⟩ (.two .nil (.loop ⟨[0, 13, 220], [(0, .fix (.eq 220)), (13, .v Yl0), (220, .v Yl2)]⟩ .nil)) .nil)))) .nil)) (.join ⟨[0, 4, 220, 221], [(0, .fix (.eq 220)), (4, .fix (.fn 124 [221])), (220, .v Yl2), (221, .bx 61 [Yl0, Yl3, Yl0, Yl0, Yl0, Yl1, Yl4])]⟩ (.two .nil (.two (.two .nil (.two .nil (.join ⟨[4, 14, 15, 221], [(14, .v Yl0), (221, .bx 61 [Yl0, Yl3, Yl0, Yl0, Yl0, Yl1, Yl4])]⟩ (.loop ⟨[4, 14, 15, 221], [(4, .fix (.fn 124 [221])), (14, .v Yl0), (15, .v Yl0), (221, .bx 61 [Yl0, Yl3, Yl0, Yl0, Yl0, Yl1, Yl4])]⟩ .nil) (.join ⟨[0, 220], [(220, .v Yl2)]⟩ (.two .nil (.loop ⟨[0, 17, 220], [(0, .fix (.eq 220)), (17, .v Yl0), (220, .v Yl2)]⟩ .nil)) .nil)))) .nil)) (.two .nil (.two .nil (.two .nil (.join ⟨[20, 21], [(20, .v Yl0), (21, .v Yl0)]⟩ .nil (.two .nil (.join ⟨[4, 20, 21, 221], [(4, .fix (.fn 124 [221])), (20, .v Yl0), (221, .bx 61 [Yl0, Yl3, Yl0, Yl0, Yl0, Yl1, Yl4])]⟩ (.loop ⟨[4, 20, 21, 221], [(4, .fix (.fn 124 [221])), (20, .v Yl0), (21, .v Yl0), (221, .bx 61 [Yl0, Yl3, Yl0, Yl0, Yl0, Yl1, Yl4])]⟩ .nil) (.two .nil (.join ⟨[0, 4, 220, 221], [(0, .fix (.eq 220)), (4, .fix (.fn 124 [221])), (220, .v Yl2), (221, .bx 61 [Yl0, Yl3, Yl0, Yl0, Yl0, Yl1, Yl4])]⟩ (.join ⟨[], [(185, .v Yl1)]⟩ .nil .nil) (.join ⟨[0, 4, 220, 221], [(0, .fix (.eq 220)), (4, .fix (.fn 124 [221])), (220, .v Yl2), (221, .bx 61 [Yl0, Yl3, Yl0, Yl0, Yl0, Yl1, Yl4])]⟩ (.join ⟨[], [(199, .v Yl1)]⟩ .nil .nil) (.join ⟨[], [(213, .v Yl1)]⟩ .nil .nil)))))))))))) } }
noncomputable def i_slices_rotateCmpFunc_Lint_impl_eval_1 : Inst := { f := 184, fn := Tryz.f184, n := 58, pds := [.mu true false 36 Yv4, .rd Yv1, .rd Yv1, .rd Yv1, .fn 124 [(true, 61, [Yl0, Yl3, Yl0, Yl0, Yl0, Yl1, Yl4])]], caps := [], res := [], h := { ca := [(31, 99), (46, 99), (57, 99)], code := (.two .nil (.two .nil (.join ⟨[0, 4, 10, 11, 58, 59], [(0, .fix (.eq 58)), (4, .fix (.fn 124 [59])), (10, .v Yl0), (58, .v Yl2), (59, .bx 61 [Yl0, Yl3, Yl0, Yl0, Yl0, Yl1, Yl4])]⟩ (.loop ⟨[0, 4, 10, 11, 58, 59], [(0, .fix (.eq 58)), (4, .fix (.fn 124 [59])), (10, .v Yl0), (11, .v Yl0), (58, .v Yl2), (59, .bx 61 [Yl0, Yl3, Yl0, Yl0, Yl0, Yl1, Yl4])]⟩ .nil) .nil))) } }
noncomputable def i_slices_swapRangeCmpFunc_Lint_impl_eval_1 : Inst := { f := 190, fn := Tryz.f190, n := 38, pds := [.mu true false 36 Yv4, .rd Yv1, .rd Yv1, .rd Yv1, .fn 124 [(true, 61, [Yl0, Yl3, Yl0, Yl0, Yl0, Yl1, Yl4])]], caps := [], res := [], h := { code := (.two .nil (.loop ⟨[0, 10, 38], [(0, .fix (.eq 38)), (10, .v Yl0), (38, .v Yl2)]⟩ .nil)) } }
noncomputable def i_impl_CountSame : Inst := { f := 126, fn := Tryz.f126, n := 21, pds := [.rd Yv2, .rd Yv4], caps := [], res := [Yl0], h := { ca := [(16, 71)], code := (.two .nil (.two .nil (.join ⟨[5], [(5, .v Yl0)]⟩ (.two .nil (.loop ⟨[5, 10], [(5, .v Yl0), (10, .v Yl0)]⟩ (.two .nil (.two .nil (.join ⟨[5], [(5, .v Yl0)]⟩ .nil .nil))))) .nil))) } }
noncomputable def i_impl_ownRows : Inst := { f := 73, fn := Tryz.f73, n := 19, pds := [.rd Yv2], caps := [], res := [Yl6], h := { ca := [(14, 102)], code := (.two .nil (.two .nil (.join ⟨[3], [(3, .v Yl6)]⟩ (.two .nil (.loop ⟨[3, 8], [(3, .v Yl6), (8, .v Yl0)]⟩ .nil)) .nil))) } }
noncomputable def i_slices_Clone_Lint : Inst := { f := 89, fn := Tryz.f89, n := 8, pds := [.rd Yv4], caps := [], res := [Yl5], h := { code := .nil } }
noncomputable def i_impl_RowText : Inst := { f := 37, fn := Tryz.f37, n := 28, pds := [.rd Yv4], caps := [], res := [Yl3], h := { al := [26], ca := [(22, 104), (27, 106)], code := (.two .nil (.two .nil (.two .nil (.join ⟨[3], [(3, .v ⟨true, true, (.sl 9 .str)⟩)]⟩ (.two .nil (.loop ⟨[3, 11], [(3, .v ⟨true, true, (.sl 9 .str)⟩), (11, .v Yl0)]⟩ (.two .nil (.two .nil (.join ⟨[3], [(3, .v ⟨true, true, (.sl 9 .str)⟩)]⟩ .nil .nil))))) .nil)))) } }
noncomputable def i_impl_number : Inst := { f := 77, fn := Tryz.f77, n := 5, pds := [.rd Yv1], caps := [], res := [Yl3], h := { ca := [(4, 105)], code := .nil } }
noncomputable def i_strconv_Itoa : Inst := { f := 128, fn := Tryz.f128, n := 5, pds := [.rd Yv1], caps := [], res := [Yl3], h := {} }
noncomputable def i_strings_Join : Inst := { f := 78, fn := Tryz.f78, n := 75, pds := [.mu true true 9 .str, .rd .str], caps := [], res := [Yl3], h := {} }
noncomputable def i_laws_eqTableS : Inst := { f := 11, fn := Tryz.f11, n := 27, pds := [.rd Yv3, .rd Yv3], caps := [], res := [Yl1], h := { ca := [(25, 108)], code := (.two .nil (.two .nil (.join ⟨[4], [(4, .v Yl1)]⟩ (.two .nil (.loop ⟨[4, 5], [(4, .v Yl1), (5, .v Yl0)]⟩ .nil)) .nil))) } }
noncomputable def i_laws_eqTable : Inst := { f := 38, fn := Tryz.f38, n := 15, pds := [.rd Yv5, .rd Yv5], caps := [], res := [Yl1], h := { code := .nil } }
noncomputable def i_laws_eqNodeS : Inst := { f := 12, fn := Tryz.f12, n := 27, pds := [.rd Yv6, .rd Yv6], caps := [], res := [Yl1], h := { ca := [(25, 110)], code := (.two .nil (.two .nil (.join ⟨[4], [(4, .v Yl1)]⟩ (.two .nil (.loop ⟨[4, 5], [(4, .v Yl1), (5, .v Yl0)]⟩ .nil)) .nil))) } }
noncomputable def i_laws_eqNode : Inst := { f := 39, fn := Tryz.f39, n := 41, pds := [.rd Yv0, .rd Yv0], caps := [], res := [Yl1], h := { ca := [(39, 111)], code := .nil } }
noncomputable def i_laws_eqIntS : Inst := { f := 79, fn := Tryz.f79, n := 26, pds := [.rd Yv4, .rd Yv4], caps := [], res := [Yl1], h := { code := (.two .nil (.two .nil (.join ⟨[4], [(4, .v Yl1)]⟩ (.two .nil (.loop ⟨[4, 5], [(4, .v Yl1), (5, .v Yl0)]⟩ .nil)) .nil))) } }
noncomputable def FTL : List Inst := [i_laws_FnExactFirstRow, i_laws_szTableS, i_laws_szTable, i_laws_szNodeS, i_laws_szNode, i_laws_szIntS, i_laws_toTableS, i_laws_toTable, i_laws_toNodeS, i_laws_toNode, i_laws_toIntS, i_spec_FirstRow, i_spec_StoreFrom, i_spec_SchemaOk, i_spec_WordOk, i_spec_l01In, i_spec_l01Less, i_spec_l13Next, i_spec_EvalPlan, i_spec_StoreOk, i_spec_l04Value, i_spec_l01Number, i_spec_TypedOk, i_spec_WidthOf, i_spec_PlanOk, i_spec_NodeOk, i_spec_l02Col, i_spec_l02End, i_spec_ArityOf, i_spec_l03Width, i_spec_l02Kids, i_spec_l03Find, i_spec_l04Eval, i_spec_l04Filter, i_spec_l04Holds, i_spec_l04Keep, i_spec_l04Join, i_spec_l01Copy, i_spec_l04Sort, i_spec_l04Once, i_spec_CountSame, i_spec_l02SameInts, i_spec_l04Copy, i_spec_RowText, i_spec_l01Num, i_impl_FirstRow, i_impl_StoreFrom, i_impl_SchemaOk, i_impl_WordOk, i_impl_in, i_impl_stream_next, i_impl_EvalPlan, i_impl_StoreOk, i_slices_ContainsFunc_Lint_impl_StoreOk_1, i_slices_IndexFunc_Lint_impl_StoreOk_1, i_impl_StoreOk_1, i_impl_isValue, i_impl_isNum, i_impl_TypedOk, i_impl_WidthOf, i_impl_PlanOk, i_slices_ContainsFunc_LimplNode_impl_PlanOk_1, i_slices_IndexFunc_LimplNode_impl_PlanOk_1, i_impl_PlanOk_1, i_impl_NodeOk, i_impl_isCol, i_impl_isSlot, i_slices_ContainsFunc_Lint_impl_NodeOk_1, i_slices_IndexFunc_Lint_impl_NodeOk_1, i_impl_NodeOk_1, i_impl_sameNode, i_slices_Equal_Lint, i_impl_end, i_impl_ArityOf, i_impl_width, i_impl_children, i_impl_tableAt, i_slices_IndexFunc_LimplTable_impl_tableAt_1, i_impl_tableAt_1, i_slices_Max_Lint, i_impl_hasSlot, i_slices_ContainsFunc_LimplNode_impl_hasSlot_1, i_slices_IndexFunc_LimplNode_impl_hasSlot_1, i_impl_hasSlot_1, i_impl_eval, i_impl_Node_keeps, i_slices_Concat_Lint, i_slices_Grow_Lint, i_slices_Concat_LLint, i_slices_Grow_LLint, i_slices_Clone_LLint, i_slices_SortStableFunc_LLint_impl_eval_1, i_slices_stableCmpFunc_Lint_impl_eval_1, i_slices_insertionSortCmpFunc_Lint_impl_eval_1, i_impl_eval_1, i_cmp_Compare_int, i_cmp_isNaN_int, i_slices_symMergeCmpFunc_Lint_impl_eval_1, i_slices_rotateCmpFunc_Lint_impl_eval_1, i_slices_swapRangeCmpFunc_Lint_impl_eval_1, i_impl_CountSame, i_impl_ownRows, i_slices_Clone_Lint, i_impl_RowText, i_impl_number, i_strconv_Itoa, i_strings_Join, i_laws_eqTableS, i_laws_eqTable, i_laws_eqNodeS, i_laws_eqNode, i_laws_eqIntS]
noncomputable def FT (j : Nat) : Inst := FTL.getD j i_laws_FnExactFirstRow
noncomputable def SP (j : Nat) : Option (InVals (FT j) → Option (Tup (outTys (FT j)))) := if h105 : j = 105 then some (h105 ▸ (show InVals (FT 105) → Option (Tup (outTys (FT 105))) from fun v => itoaF v.1.1)) else if h106 : j = 106 then some (h106 ▸ (show InVals (FT 106) → Option (Tup (outTys (FT 106))) from fun v => joinF v.1.1 v.1.2.1)) else none
def lays156_ren : Go.Shelf.Ren := ⟨fun | 156 => 78 | 165 => 129 | 166 => 130 | 169 => 131 | 240 => 164 | 241 => 165 | 276 => 180 | 277 => 181 | n => n, fun | 0 => 0 | 3 => 3 | 4 => 4 | 5 => 5 | 9 => 9 | 20 => 20 | 31 => 73 | 37 => 34 | 70 => 135 | 72 => 137 | 75 => 140 | 76 => 141 | 80 => 143 | 127 => 162 | 164 => 175 | n => n, fun n => n⟩
theorem lays156 : Go.Proofs.Lays.n156 Tryz.prog lays156_ren := {
 mixed := by kernel_rfl,
 f156 := Tryz.func78.trans (congrArg some (by kernel_rfl)),
 f165 := Tryz.func129.trans (congrArg some (by kernel_rfl)),
 f166 := Tryz.func130.trans (congrArg some (by kernel_rfl)),
 f169 := Tryz.func131.trans (congrArg some (by kernel_rfl)),
 f240 := Tryz.func164.trans (congrArg some (by kernel_rfl)),
 f241 := Tryz.func165.trans (congrArg some (by kernel_rfl)),
 f276 := Tryz.func180.trans (congrArg some (by kernel_rfl)),
 f277 := Tryz.func181.trans (congrArg some (by kernel_rfl)),
 t0 := Tryz.underlying0,
 a0 := Tryz.isAgg0,
 z0 := Tryz.sizeOf0,
 v0 := Tryz.zeroValue0,
 t3 := Tryz.underlying3,
 a3 := Tryz.isAgg3,
 z3 := Tryz.sizeOf3,
 v3 := Tryz.zeroValue3,
 t4 := Tryz.underlying4,
 a4 := Tryz.isAgg4,
 z4 := Tryz.sizeOf4,
 v4 := Tryz.zeroValue4,
 t9 := Tryz.underlying9,
 a9 := Tryz.isAgg9,
 z9 := Tryz.sizeOf9,
 v9 := Tryz.zeroValue9,
 t20 := Tryz.underlying20,
 a20 := Tryz.isAgg20,
 z20 := Tryz.sizeOf20,
 v20 := Tryz.zeroValue20,
 t31 := Tryz.underlying73,
 a31 := Tryz.isAgg73,
 z31 := Tryz.sizeOf73,
 v31 := Tryz.zeroValue73,
 t37 := Tryz.underlying34,
 a37 := Tryz.isAgg34,
 z37 := Tryz.sizeOf34,
 v37 := Tryz.zeroValue34,
 t70 := Tryz.underlying135,
 a70 := Tryz.isAgg135,
 z70 := Tryz.sizeOf135,
 v70 := Tryz.zeroValue135,
 t72 := Tryz.underlying137,
 a72 := Tryz.isAgg137,
 z72 := Tryz.sizeOf137,
 v72 := Tryz.zeroValue137,
 t75 := Tryz.underlying140,
 a75 := Tryz.isAgg140,
 z75 := Tryz.sizeOf140,
 v75 := Tryz.zeroValue140,
 t76 := Tryz.underlying141,
 a76 := Tryz.isAgg141,
 z76 := Tryz.sizeOf141,
 v76 := Tryz.zeroValue141,
 t127 := Tryz.underlying162,
 a127 := Tryz.isAgg162,
 z127 := Tryz.sizeOf162,
 v127 := Tryz.zeroValue162,
 t164 := Tryz.underlying175,
 a164 := Tryz.isAgg175,
 z164 := Tryz.sizeOf175,
 v164 := Tryz.zeroValue175 }
theorem lays156X : Go.Proofs.Builder.Extra Tryz.prog lays156_ren := {
 sizeBuilder := by kernel_rfl,
 liesBuilder := by kernel_rfl,
 t5 := Tryz.underlying5,
 a5 := Tryz.isAgg5,
 z5 := Tryz.sizeOf5,
 v5 := Tryz.zeroValue5,
 infoByte := by kernel_rfl,
 cellsByte := by kernel_rfl,
 sizeByte := by kernel_rfl,
 neB5 := by decide }
def lays171_ren : Go.Shelf.Ren := ⟨fun | 129 => 192 | 171 => 128 | 243 => 163 | 246 => 179 | 283 => 185 | 284 => 186 | 285 => 187 | 286 => 188 | 317 => 191 | 318 => 193 | 319 => 194 | 320 => 195 | 337 => 197 | 338 => 198 | n => n, fun | 0 => 0 | 2 => 2 | 3 => 3 | 4 => 4 | 5 => 5 | 9 => 9 | 20 => 20 | 37 => 34 | 46 => 178 | 51 => 188 | 53 => 180 | 171 => 179 | 173 => 183 | 212 => 187 | 213 => 189 | 232 => 193 | 233 => 194 | n => n, fun | 17 => 1 | 18 => 2 | 19 => 3 | n => n⟩
theorem lays171 : Go.Proofs.LaysM.n171 Tryz.prog lays171_ren := {
 mixed := by kernel_rfl,
 f129 := Tryz.func192.trans (congrArg some (by kernel_rfl)),
 f171 := Tryz.func128.trans (congrArg some (by kernel_rfl)),
 f243 := Tryz.func163.trans (congrArg some (by kernel_rfl)),
 f246 := Tryz.func179.trans (congrArg some (by kernel_rfl)),
 f283 := Tryz.func185.trans (congrArg some (by kernel_rfl)),
 f284 := Tryz.func186.trans (congrArg some (by kernel_rfl)),
 f285 := Tryz.func187.trans (congrArg some (by kernel_rfl)),
 f286 := Tryz.func188.trans (congrArg some (by kernel_rfl)),
 f317 := Tryz.func191.trans (congrArg some (by kernel_rfl)),
 f318 := Tryz.func193.trans (congrArg some (by kernel_rfl)),
 f319 := Tryz.func194.trans (congrArg some (by kernel_rfl)),
 f320 := Tryz.func195.trans (congrArg some (by kernel_rfl)),
 f337 := Tryz.func197.trans (congrArg some (by kernel_rfl)),
 f338 := Tryz.func198.trans (congrArg some (by kernel_rfl)),
 t0 := Tryz.underlying0,
 a0 := Tryz.isAgg0,
 z0 := Tryz.sizeOf0,
 v0 := Tryz.zeroValue0,
 t2 := Tryz.underlying2,
 a2 := Tryz.isAgg2,
 z2 := Tryz.sizeOf2,
 v2 := Tryz.zeroValue2,
 t3 := Tryz.underlying3,
 a3 := Tryz.isAgg3,
 z3 := Tryz.sizeOf3,
 v3 := Tryz.zeroValue3,
 t4 := Tryz.underlying4,
 a4 := Tryz.isAgg4,
 z4 := Tryz.sizeOf4,
 v4 := Tryz.zeroValue4,
 t5 := Tryz.underlying5,
 a5 := Tryz.isAgg5,
 z5 := Tryz.sizeOf5,
 v5 := Tryz.zeroValue5,
 t9 := Tryz.underlying9,
 a9 := Tryz.isAgg9,
 z9 := Tryz.sizeOf9,
 v9 := Tryz.zeroValue9,
 t20 := Tryz.underlying20,
 a20 := Tryz.isAgg20,
 z20 := Tryz.sizeOf20,
 v20 := Tryz.zeroValue20,
 t37 := Tryz.underlying34,
 a37 := Tryz.isAgg34,
 z37 := Tryz.sizeOf34,
 v37 := Tryz.zeroValue34,
 t46 := Tryz.underlying178,
 a46 := Tryz.isAgg178,
 z46 := Tryz.sizeOf178,
 v46 := Tryz.zeroValue178,
 t51 := Tryz.underlying188,
 a51 := Tryz.isAgg188,
 z51 := Tryz.sizeOf188,
 v51 := Tryz.zeroValue188,
 t53 := Tryz.underlying180,
 a53 := Tryz.isAgg180,
 z53 := Tryz.sizeOf180,
 v53 := Tryz.zeroValue180,
 t171 := Tryz.underlying179,
 a171 := Tryz.isAgg179,
 z171 := Tryz.sizeOf179,
 v171 := Tryz.zeroValue179,
 t173 := Tryz.underlying183,
 a173 := Tryz.isAgg183,
 z173 := Tryz.sizeOf183,
 v173 := Tryz.zeroValue183,
 t212 := Tryz.underlying187,
 a212 := Tryz.isAgg187,
 z212 := Tryz.sizeOf187,
 v212 := Tryz.zeroValue187,
 t213 := Tryz.underlying189,
 a213 := Tryz.isAgg189,
 z213 := Tryz.sizeOf189,
 t232 := Tryz.underlying193,
 a232 := Tryz.isAgg193,
 z232 := Tryz.sizeOf193,
 v232 := Tryz.zeroValue193,
 t233 := Tryz.underlying194,
 a233 := Tryz.isAgg194,
 z233 := Tryz.sizeOf194,
 v233 := Tryz.zeroValue194,
 g17 := by kernel_rfl,
 g18 := by kernel_rfl,
 g19 := by kernel_rfl,
 i0 := by kernel_rfl,
 i2 := by kernel_rfl,
 i3 := by kernel_rfl,
 i4 := by kernel_rfl,
 i5 := by kernel_rfl,
 i9 := by kernel_rfl,
 i20 := by kernel_rfl,
 i37 := by kernel_rfl,
 i46 := by kernel_rfl,
 i51 := by kernel_rfl,
 i53 := by kernel_rfl,
 i171 := by kernel_rfl,
 i173 := by kernel_rfl,
 i212 := by kernel_rfl,
 i232 := by kernel_rfl,
 i233 := by kernel_rfl,
 m17 := by kernel_rfl,
 m18 := by kernel_rfl,
 m19 := by kernel_rfl }
theorem sp_ok : ∀ j f, SP j = some f → ∀ v r, f v = some r → RetI Tryz.prog (FT j) v r := by
 intro j f hf v r hv
 by_cases h105 : j = 105
 ·subst h105
  have hf2 : some (show InVals (FT 105) → Option (Tup (outTys (FT 105))) from fun v => itoaF v.1.1) = some f := hf
  have hf3 := Option.some.inj hf2
  subst hf3
  exact retI_itoa lays171 (by kernel_rfl) (by decide) (by kernel_rfl) hv
 by_cases h106 : j = 106
 ·subst h106
  have hf2 : some (show InVals (FT 106) → Option (Tup (outTys (FT 106))) from fun v => joinF v.1.1 v.1.2.1) = some f := hf
  have hf3 := Option.some.inj hf2
  subst hf3
  exact retI_join lays156 lays156X (by kernel_rfl) (by decide) hv
 unfold SP at hf
 rw [dif_neg h105, dif_neg h106] at hf
 cases hf
theorem ft_ok : FTok Tryz.prog tt FT SP := FTok.of tt_ok (by kernel_rfl) ⟨Tryz.func3, Tryz.func3, Tryz.func5, Tryz.func28, Tryz.func6, Tryz.func29, Tryz.func60, Tryz.func8, Tryz.func33, Tryz.func9, Tryz.func34, Tryz.func69, Tryz.func7, Tryz.func31, Tryz.func65, Tryz.func110, Tryz.func66, Tryz.func111, Tryz.func67, Tryz.func30, Tryz.func61, Tryz.func103, Tryz.func151, Tryz.func62, Tryz.func104, Tryz.func88, Tryz.func143, Tryz.func171, Tryz.func86, Tryz.func142, Tryz.func141, Tryz.func98, Tryz.func99, Tryz.func63, Tryz.func105, Tryz.func152, Tryz.func106, Tryz.func107, Tryz.func82, Tryz.func108, Tryz.func109, Tryz.func153, Tryz.func176, Tryz.func64, Tryz.func32, Tryz.func68, Tryz.func10, Tryz.func36, Tryz.func74, Tryz.func127, Tryz.func75, Tryz.func76, Tryz.func35, Tryz.func70, Tryz.func112, Tryz.func154, Tryz.func113, Tryz.func114, Tryz.func155, Tryz.func56, Tryz.func100, Tryz.func94, Tryz.func115, Tryz.func156, Tryz.func148, Tryz.func149, Tryz.func173, Tryz.func174, Tryz.func112, Tryz.func154, Tryz.func175, Tryz.func48, Tryz.func95, Tryz.func93, Tryz.func147, Tryz.func145, Tryz.func117, Tryz.func118, Tryz.func157, Tryz.func158, Tryz.func172, Tryz.func71, Tryz.func115, Tryz.func156, Tryz.func116, Tryz.func72, Tryz.func119, Tryz.func120, Tryz.func159, Tryz.func121, Tryz.func160, Tryz.func122, Tryz.func123, Tryz.func161, Tryz.func177, Tryz.func124, Tryz.func125, Tryz.func162, Tryz.func178, Tryz.func184, Tryz.func190, Tryz.func126, Tryz.func73, Tryz.func89, Tryz.func37, Tryz.func77, Tryz.func128, Tryz.func78, Tryz.func11, Tryz.func38, Tryz.func12, Tryz.func39, Tryz.func79, trivial⟩ (by kernel_rfl) (sp_ok)
noncomputable def F_laws_FnExactFirstRow (a0 : List STable) (a1 : List SNode) (a2 : Int) : Option Bool := callL tt FT SP 0 (show InVals (FT 0) from ((a0, a1, a2, ()), (())))
noncomputable def F_laws_szTableS (a0 : List STable) (a1 : Int) : Option Int := callL tt FT SP 1 (show InVals (FT 1) from ((a0, a1, ()), (())))
noncomputable def F_laws_szTable (a0 : STable) (a1 : Int) : Option Int := callL tt FT SP 2 (show InVals (FT 2) from ((a0, a1, ()), (())))
noncomputable def F_laws_szNodeS (a0 : List SNode) (a1 : Int) : Option Int := callL tt FT SP 3 (show InVals (FT 3) from ((a0, a1, ()), (())))
noncomputable def F_laws_szNode (a0 : SNode) (a1 : Int) : Option Int := callL tt FT SP 4 (show InVals (FT 4) from ((a0, a1, ()), (())))
noncomputable def F_laws_szIntS (a0 : List Int) (a1 : Int) : Option Int := callL tt FT SP 5 (show InVals (FT 5) from ((a0, a1, ()), (())))
noncomputable def F_laws_toTableS (a0 : List STable) : Option (List STable) := callL tt FT SP 6 (show InVals (FT 6) from ((a0, ()), (())))
noncomputable def F_laws_toTable (a0 : STable) : Option STable := callL tt FT SP 7 (show InVals (FT 7) from ((a0, ()), (())))
noncomputable def F_laws_toNodeS (a0 : List SNode) : Option (List SNode) := callL tt FT SP 8 (show InVals (FT 8) from ((a0, ()), (())))
noncomputable def F_laws_toNode (a0 : SNode) : Option SNode := callL tt FT SP 9 (show InVals (FT 9) from ((a0, ()), (())))
noncomputable def F_laws_toIntS (a0 : List Int) : Option Yt10 := callL tt FT SP 10 (show InVals (FT 10) from ((a0, ()), (())))
noncomputable def F_spec_FirstRow (a0 : List STable) (a1 : List SNode) (a2 : Int) : Option ByteArray := callL tt FT SP 11 (show InVals (FT 11) from ((a0, a1, a2, ()), (())))
noncomputable def F_spec_StoreFrom (a0 : List STable) (a1 : Int) : Option Yt23 := callL tt FT SP 12 (show InVals (FT 12) from ((a0, a1, ()), (())))
noncomputable def F_spec_SchemaOk (a0 : List STable) : Option Bool := callL tt FT SP 13 (show InVals (FT 13) from ((a0, ()), (())))
noncomputable def F_spec_WordOk (a0 : ByteArray) : Option Bool := callL tt FT SP 14 (show InVals (FT 14) from ((a0, ()), (())))
noncomputable def F_spec_l01In (a0 : Int) (a1 : Int) (a2 : Int) : Option Bool := callL tt FT SP 15 (show InVals (FT 15) from ((a0, a1, a2, ()), (())))
noncomputable def F_spec_l01Less (a0 : ByteArray) (a1 : ByteArray) : Option Bool := callL tt FT SP 16 (show InVals (FT 16) from ((a0, a1, ()), (())))
noncomputable def F_spec_l13Next (a0x0 : Int) : Option Yt19 := callL tt FT SP 17 (show InVals (FT 17) from (((a0x0, ()), ()), (())))
noncomputable def F_spec_EvalPlan (a0 : List STable) (a1 : List Yt8) (a2 : List SNode) : Option Yt14 := callL tt FT SP 18 (show InVals (FT 18) from ((a0, a1, a2, ()), (())))
noncomputable def F_spec_StoreOk (a0 : List STable) (a1 : List Yt8) : Option Bool := callL tt FT SP 19 (show InVals (FT 19) from ((a0, a1, ()), (())))
noncomputable def F_spec_l04Value (a0 : Int) : Option Bool := callL tt FT SP 20 (show InVals (FT 20) from ((a0, ()), (())))
noncomputable def F_spec_l01Number (a0 : Int) : Option Bool := callL tt FT SP 21 (show InVals (FT 21) from ((a0, ()), (())))
noncomputable def F_spec_TypedOk (a0 : List STable) (a1 : List SNode) : Option Bool := callL tt FT SP 22 (show InVals (FT 22) from ((a0, a1, ()), (())))
noncomputable def F_spec_WidthOf (a0 : List STable) (a1 : List SNode) : Option Int := callL tt FT SP 23 (show InVals (FT 23) from ((a0, a1, ()), (())))
noncomputable def F_spec_PlanOk (a0 : List SNode) : Option Bool := callL tt FT SP 24 (show InVals (FT 24) from ((a0, ()), (())))
noncomputable def F_spec_NodeOk (a0 : SNode) : Option Bool := callL tt FT SP 25 (show InVals (FT 25) from ((a0, ()), (())))
noncomputable def F_spec_l02Col (a0 : Int) : Option Bool := callL tt FT SP 26 (show InVals (FT 26) from ((a0, ()), (())))
noncomputable def F_spec_l02End (a0 : List SNode) (a1 : Int) (a2 : Int) : Option Yt19 := callL tt FT SP 27 (show InVals (FT 27) from ((a0, a1, a2, ()), (())))
noncomputable def F_spec_ArityOf (a0 : Int) : Option Int := callL tt FT SP 28 (show InVals (FT 28) from ((a0, ()), (())))
noncomputable def F_spec_l03Width (a0 : List STable) (a1 : List SNode) (a2 : Int) : Option Int := callL tt FT SP 29 (show InVals (FT 29) from ((a0, a1, a2, ()), (())))
noncomputable def F_spec_l02Kids (a0 : List SNode) (a1 : Int) : Option Yt10 := callL tt FT SP 30 (show InVals (FT 30) from ((a0, a1, ()), (())))
noncomputable def F_spec_l03Find (a0 : List STable) (a1 : ByteArray) : Option Int := callL tt FT SP 31 (show InVals (FT 31) from ((a0, a1, ()), (())))
noncomputable def F_spec_l04Eval (a0 : List STable) (a1 : List Yt8) (a2 : List SNode) (a3 : Int) : Option Yt15 := callL tt FT SP 32 (show InVals (FT 32) from ((a0, a1, a2, a3, ()), (())))
noncomputable def F_spec_l04Filter (a0 : SNode) (a1 : List Yt10) : Option Yt8 := callL tt FT SP 33 (show InVals (FT 33) from ((a0, a1, ()), (())))
noncomputable def F_spec_l04Holds (a0 : SNode) (a1 : Int) : Option Bool := callL tt FT SP 34 (show InVals (FT 34) from ((a0, a1, ()), (())))
noncomputable def F_spec_l04Keep (a0 : SNode) (a1 : List Yt10) : Option Yt8 := callL tt FT SP 35 (show InVals (FT 35) from ((a0, a1, ()), (())))
noncomputable def F_spec_l04Join (a0 : SNode) (a1 : List Yt10) (a2 : List Yt10) : Option Yt8 := callL tt FT SP 36 (show InVals (FT 36) from ((a0, a1, a2, ()), (())))
noncomputable def F_spec_l01Copy (a0 : List Int) : Option Yt10 := callL tt FT SP 37 (show InVals (FT 37) from ((a0, ()), (())))
noncomputable def F_spec_l04Sort (a0 : SNode) (a1 : List Yt10) : Option Yt8 := callL tt FT SP 38 (show InVals (FT 38) from ((a0, a1, ()), (())))
noncomputable def F_spec_l04Once (a0 : List Yt10) : Option Yt8 := callL tt FT SP 39 (show InVals (FT 39) from ((a0, ()), (())))
noncomputable def F_spec_CountSame (a0 : List Yt10) (a1 : List Int) : Option Int := callL tt FT SP 40 (show InVals (FT 40) from ((a0, a1, ()), (())))
noncomputable def F_spec_l02SameInts (a0 : List Int) (a1 : List Int) : Option Bool := callL tt FT SP 41 (show InVals (FT 41) from ((a0, a1, ()), (())))
noncomputable def F_spec_l04Copy (a0 : List Yt10) : Option Yt8 := callL tt FT SP 42 (show InVals (FT 42) from ((a0, ()), (())))
noncomputable def F_spec_RowText (a0 : List Int) : Option ByteArray := callL tt FT SP 43 (show InVals (FT 43) from ((a0, ()), (())))
noncomputable def F_spec_l01Num (a0 : Int) : Option ByteArray := callL tt FT SP 44 (show InVals (FT 44) from ((a0, ()), (())))
noncomputable def F_impl_FirstRow (a0 : List STable) (a1 : List SNode) (a2 : Int) : Option ByteArray := callL tt FT SP 45 (show InVals (FT 45) from ((a0, a1, a2, ()), (())))
noncomputable def F_impl_StoreFrom (a0 : List STable) (a1 : Int) : Option Yt23 := callL tt FT SP 46 (show InVals (FT 46) from ((a0, a1, ()), (())))
noncomputable def F_impl_SchemaOk (a0 : List STable) : Option Bool := callL tt FT SP 47 (show InVals (FT 47) from ((a0, ()), (())))
noncomputable def F_impl_WordOk (a0 : ByteArray) : Option Bool := callL tt FT SP 48 (show InVals (FT 48) from ((a0, ()), (())))
noncomputable def F_impl_in (a0 : Int) (a1 : Int) (a2 : Int) : Option Bool := callL tt FT SP 49 (show InVals (FT 49) from ((a0, a1, a2, ()), (())))
noncomputable def F_impl_stream_next (a0x0 : Int) : Option Yt19 := callL tt FT SP 50 (show InVals (FT 50) from (((a0x0, ()), ()), (())))
noncomputable def F_impl_EvalPlan (a0 : List STable) (a1 : List Yt8) (a2 : List SNode) : Option Yt14 := callL tt FT SP 51 (show InVals (FT 51) from ((a0, a1, a2, ()), (())))
noncomputable def F_impl_StoreOk (a0 : List STable) (a1 : List Yt8) : Option Bool := callL tt FT SP 52 (show InVals (FT 52) from ((a0, a1, ()), (())))
noncomputable def F_slices_ContainsFunc_Lint_impl_StoreOk_1 (a0 : List Int) : Option Bool := callL tt FT SP 53 (show InVals (FT 53) from ((a0, (()), ()), (())))
noncomputable def F_slices_IndexFunc_Lint_impl_StoreOk_1 (a0 : List Int) : Option Int := callL tt FT SP 54 (show InVals (FT 54) from ((a0, (()), ()), (())))
noncomputable def F_impl_StoreOk_1 (a0 : Int) : Option Bool := callL tt FT SP 55 (show InVals (FT 55) from ((a0, ()), (())))
noncomputable def F_impl_isValue (a0 : Int) : Option Bool := callL tt FT SP 56 (show InVals (FT 56) from ((a0, ()), (())))
noncomputable def F_impl_isNum (a0 : Int) : Option Bool := callL tt FT SP 57 (show InVals (FT 57) from ((a0, ()), (())))
noncomputable def F_impl_TypedOk (a0 : List STable) (a1 : List SNode) : Option Bool := callL tt FT SP 58 (show InVals (FT 58) from ((a0, a1, ()), (())))
noncomputable def F_impl_WidthOf (a0 : List STable) (a1 : List SNode) : Option Int := callL tt FT SP 59 (show InVals (FT 59) from ((a0, a1, ()), (())))
noncomputable def F_impl_PlanOk (a0 : List SNode) : Option Bool := callL tt FT SP 60 (show InVals (FT 60) from ((a0, ()), (())))
noncomputable def F_slices_ContainsFunc_LimplNode_impl_PlanOk_1 (a0 : List SNode) : Option Bool := callL tt FT SP 61 (show InVals (FT 61) from ((a0, (()), ()), (())))
noncomputable def F_slices_IndexFunc_LimplNode_impl_PlanOk_1 (a0 : List SNode) : Option Int := callL tt FT SP 62 (show InVals (FT 62) from ((a0, (()), ()), (())))
noncomputable def F_impl_PlanOk_1 (a0 : SNode) : Option Bool := callL tt FT SP 63 (show InVals (FT 63) from ((a0, ()), (())))
noncomputable def F_impl_NodeOk (a0 : SNode) : Option Bool := callL tt FT SP 64 (show InVals (FT 64) from ((a0, ()), (())))
noncomputable def F_impl_isCol (a0 : Int) : Option Bool := callL tt FT SP 65 (show InVals (FT 65) from ((a0, ()), (())))
noncomputable def F_impl_isSlot (a0 : Int) : Option Bool := callL tt FT SP 66 (show InVals (FT 66) from ((a0, ()), (())))
noncomputable def F_slices_ContainsFunc_Lint_impl_NodeOk_1 (a0 : List Int) : Option Bool := callL tt FT SP 67 (show InVals (FT 67) from ((a0, (()), ()), (())))
noncomputable def F_slices_IndexFunc_Lint_impl_NodeOk_1 (a0 : List Int) : Option Int := callL tt FT SP 68 (show InVals (FT 68) from ((a0, (()), ()), (())))
noncomputable def F_impl_NodeOk_1 (a0 : Int) : Option Bool := callL tt FT SP 69 (show InVals (FT 69) from ((a0, ()), (())))
noncomputable def F_impl_sameNode (a0 : SNode) (a1 : SNode) : Option Bool := callL tt FT SP 70 (show InVals (FT 70) from ((a0, a1, ()), (())))
noncomputable def F_slices_Equal_Lint (a0 : List Int) (a1 : List Int) : Option Bool := callL tt FT SP 71 (show InVals (FT 71) from ((a0, a1, ()), (())))
noncomputable def F_impl_end (a0 : List SNode) (a1 : Int) (a2 : Int) : Option Int := callL tt FT SP 72 (show InVals (FT 72) from ((a0, a1, a2, ()), (())))
noncomputable def F_impl_ArityOf (a0 : Int) : Option Int := callL tt FT SP 73 (show InVals (FT 73) from ((a0, ()), (())))
noncomputable def F_impl_width (a0 : List STable) (a1 : List SNode) (a2 : Int) : Option Int := callL tt FT SP 74 (show InVals (FT 74) from ((a0, a1, a2, ()), (())))
noncomputable def F_impl_children (a0 : List SNode) (a1 : Int) : Option Yt10 := callL tt FT SP 75 (show InVals (FT 75) from ((a0, a1, ()), (())))
noncomputable def F_impl_tableAt (a0 : List STable) (a1 : ByteArray) : Option Int := callL tt FT SP 76 (show InVals (FT 76) from ((a0, a1, ()), (())))
noncomputable def F_slices_IndexFunc_LimplTable_impl_tableAt_1 (a0 : List STable) (a1x0x0 : ByteArray) : Option Yt32 := callL tt FT SP 77 (show InVals (FT 77) from ((a0, ((a1x0x0, ()), ()), ()), (())))
noncomputable def F_impl_tableAt_1 (a0 : STable) (c0x0 : ByteArray) : Option (Bool × ByteArray) := callL tt FT SP 78 (show InVals (FT 78) from ((a0, ()), ((c0x0, ()), ())))
noncomputable def F_slices_Max_Lint (a0 : List Int) : Option Int := callL tt FT SP 79 (show InVals (FT 79) from ((a0, ()), (())))
noncomputable def F_impl_hasSlot (a0 : List SNode) : Option Bool := callL tt FT SP 80 (show InVals (FT 80) from ((a0, ()), (())))
noncomputable def F_slices_ContainsFunc_LimplNode_impl_hasSlot_1 (a0 : List SNode) : Option Bool := callL tt FT SP 81 (show InVals (FT 81) from ((a0, (()), ()), (())))
noncomputable def F_slices_IndexFunc_LimplNode_impl_hasSlot_1 (a0 : List SNode) : Option Int := callL tt FT SP 82 (show InVals (FT 82) from ((a0, (()), ()), (())))
noncomputable def F_impl_hasSlot_1 (a0 : SNode) : Option Bool := callL tt FT SP 83 (show InVals (FT 83) from ((a0, ()), (())))
noncomputable def F_impl_eval (a0 : List STable) (a1 : List Yt8) (a2 : List SNode) (a3 : Int) : Option Yt15 := callL tt FT SP 84 (show InVals (FT 84) from ((a0, a1, a2, a3, ()), (())))
noncomputable def F_impl_Node_keeps (a0 : SNode) (a1 : Int) : Option Bool := callL tt FT SP 85 (show InVals (FT 85) from ((a0, a1, ()), (())))
noncomputable def F_slices_Concat_Lint (a0 : List Yt10) : Option Yt10 := callL tt FT SP 86 (show InVals (FT 86) from ((a0, ()), (())))
noncomputable def F_slices_Grow_Lint (a1 : Int) : Option Yt10 := callL tt FT SP 87 (show InVals (FT 87) from (([], a1, ()), (())))
noncomputable def F_slices_Concat_LLint (a0 : List Yt8) : Option Yt8 := callL tt FT SP 88 (show InVals (FT 88) from ((a0, ()), (())))
noncomputable def F_slices_Grow_LLint (a1 : Int) : Option Yt8 := callL tt FT SP 89 (show InVals (FT 89) from (([], a1, ()), (())))
noncomputable def F_slices_Clone_LLint (a0 : List Yt10) : Option Yt8 := callL tt FT SP 90 (show InVals (FT 90) from ((a0, ()), (())))
noncomputable def F_slices_SortStableFunc_LLint_impl_eval_1 (a0 : List Yt10) (a1x0x0 : Int) (a1x0x1 : ByteArray) (a1x0x2 : Int) (a1x0x3 : Int) (a1x0x4 : Int) (a1x0x5 : Bool) (a1x0x6 : List Int) : Option Yt9 := callL tt FT SP 91 (show InVals (FT 91) from ((a0, ((a1x0x0, a1x0x1, a1x0x2, a1x0x3, a1x0x4, a1x0x5, a1x0x6, ()), ()), ()), (())))
noncomputable def F_slices_stableCmpFunc_Lint_impl_eval_1 (a0 : List Yt10) (a1 : Int) (a2x0x0 : Int) (a2x0x1 : ByteArray) (a2x0x2 : Int) (a2x0x3 : Int) (a2x0x4 : Int) (a2x0x5 : Bool) (a2x0x6 : List Int) : Option Yt9 := callL tt FT SP 92 (show InVals (FT 92) from ((a0, a1, ((a2x0x0, a2x0x1, a2x0x2, a2x0x3, a2x0x4, a2x0x5, a2x0x6, ()), ()), ()), (())))
noncomputable def F_slices_insertionSortCmpFunc_Lint_impl_eval_1 (a0 : List Yt10) (a1 : Int) (a2 : Int) (a3x0x0 : Int) (a3x0x1 : ByteArray) (a3x0x2 : Int) (a3x0x3 : Int) (a3x0x4 : Int) (a3x0x5 : Bool) (a3x0x6 : List Int) : Option Yt9 := callL tt FT SP 93 (show InVals (FT 93) from ((a0, a1, a2, ((a3x0x0, a3x0x1, a3x0x2, a3x0x3, a3x0x4, a3x0x5, a3x0x6, ()), ()), ()), (())))
noncomputable def F_impl_eval_1 (a0 : List Int) (a1 : List Int) (c0x0 : Int) (c0x1 : ByteArray) (c0x2 : Int) (c0x3 : Int) (c0x4 : Int) (c0x5 : Bool) (c0x6 : List Int) : Option Yt16 := callL tt FT SP 94 (show InVals (FT 94) from ((a0, a1, ()), ((c0x0, c0x1, c0x2, c0x3, c0x4, c0x5, c0x6, ()), ())))
noncomputable def F_cmp_Compare_int (a0 : Int) (a1 : Int) : Option Int := callL tt FT SP 95 (show InVals (FT 95) from ((a0, a1, ()), (())))
noncomputable def F_cmp_isNaN_int (a0 : Int) : Option Bool := callL tt FT SP 96 (show InVals (FT 96) from ((a0, ()), (())))
noncomputable def F_slices_symMergeCmpFunc_Lint_impl_eval_1 (a0 : List Yt10) (a1 : Int) (a2 : Int) (a3 : Int) (a4x0x0 : Int) (a4x0x1 : ByteArray) (a4x0x2 : Int) (a4x0x3 : Int) (a4x0x4 : Int) (a4x0x5 : Bool) (a4x0x6 : List Int) : Option Yt9 := callL tt FT SP 97 (show InVals (FT 97) from ((a0, a1, a2, a3, ((a4x0x0, a4x0x1, a4x0x2, a4x0x3, a4x0x4, a4x0x5, a4x0x6, ()), ()), ()), (())))
noncomputable def F_slices_rotateCmpFunc_Lint_impl_eval_1 (a0 : List Yt10) (a1 : Int) (a2 : Int) (a3 : Int) (a4x0x0 : Int) (a4x0x1 : ByteArray) (a4x0x2 : Int) (a4x0x3 : Int) (a4x0x4 : Int) (a4x0x5 : Bool) (a4x0x6 : List Int) : Option Yt9 := callL tt FT SP 98 (show InVals (FT 98) from ((a0, a1, a2, a3, ((a4x0x0, a4x0x1, a4x0x2, a4x0x3, a4x0x4, a4x0x5, a4x0x6, ()), ()), ()), (())))
noncomputable def F_slices_swapRangeCmpFunc_Lint_impl_eval_1 (a0 : List Yt10) (a1 : Int) (a2 : Int) (a3 : Int) (a4x0x0 : Int) (a4x0x1 : ByteArray) (a4x0x2 : Int) (a4x0x3 : Int) (a4x0x4 : Int) (a4x0x5 : Bool) (a4x0x6 : List Int) : Option Yt9 := callL tt FT SP 99 (show InVals (FT 99) from ((a0, a1, a2, a3, ((a4x0x0, a4x0x1, a4x0x2, a4x0x3, a4x0x4, a4x0x5, a4x0x6, ()), ()), ()), (())))
noncomputable def F_impl_CountSame (a0 : List Yt10) (a1 : List Int) : Option Int := callL tt FT SP 100 (show InVals (FT 100) from ((a0, a1, ()), (())))
noncomputable def F_impl_ownRows (a0 : List Yt10) : Option Yt8 := callL tt FT SP 101 (show InVals (FT 101) from ((a0, ()), (())))
noncomputable def F_slices_Clone_Lint (a0 : List Int) : Option Yt10 := callL tt FT SP 102 (show InVals (FT 102) from ((a0, ()), (())))
noncomputable def F_impl_RowText (a0 : List Int) : Option ByteArray := callL tt FT SP 103 (show InVals (FT 103) from ((a0, ()), (())))
noncomputable def F_impl_number (a0 : Int) : Option ByteArray := callL tt FT SP 104 (show InVals (FT 104) from ((a0, ()), (())))
noncomputable def F_strconv_Itoa (a0 : Int) : Option ByteArray := callL tt FT SP 105 (show InVals (FT 105) from ((a0, ()), (())))
noncomputable def F_strings_Join (a0 : List ByteArray) (a1 : ByteArray) : Option (ByteArray × (List ByteArray)) := callL tt FT SP 106 (show InVals (FT 106) from ((a0, a1, ()), (())))
noncomputable def F_laws_eqTableS (a0 : List STable) (a1 : List STable) : Option Bool := callL tt FT SP 107 (show InVals (FT 107) from ((a0, a1, ()), (())))
noncomputable def F_laws_eqTable (a0 : STable) (a1 : STable) : Option Bool := callL tt FT SP 108 (show InVals (FT 108) from ((a0, a1, ()), (())))
noncomputable def F_laws_eqNodeS (a0 : List SNode) (a1 : List SNode) : Option Bool := callL tt FT SP 109 (show InVals (FT 109) from ((a0, a1, ()), (())))
noncomputable def F_laws_eqNode (a0 : SNode) (a1 : SNode) : Option Bool := callL tt FT SP 110 (show InVals (FT 110) from ((a0, a1, ()), (())))
noncomputable def F_laws_eqIntS (a0 : List Int) (a1 : List Int) : Option Bool := callL tt FT SP 111 (show InVals (FT 111) from ((a0, a1, ()), (())))
theorem U_laws_FnExactFirstRow (a0 : List STable) (a1 : List SNode) (a2 : Int) : Le ((F_laws_szTableS a0 1048576).bind (fun y1 => (bif (decide (y1 < 0)) then
 some true
 else (F_laws_szNodeS a1 y1).bind (fun y2 => (bif (decide (y2 < 0)) then
 some true
 else (F_laws_toTableS a0).bind (fun y3 => (F_laws_toNodeS a1).bind (fun y4 => (F_spec_FirstRow y3 y4 a2).bind (fun y5 => (F_laws_toTableS a0).bind (fun y6 => (F_laws_toNodeS a1).bind (fun y7 => (F_impl_FirstRow y6 y7 a2).bind (fun y8 => (bif (!(y8.toList == y5.toList)) then
 some false
 else (F_laws_toTableS a0).bind (fun y9 => (F_laws_eqTableS y6 y9).bind (fun y10 => (bif (!y10) then
 some false
 else (F_laws_toNodeS a1).bind (fun y11 => (F_laws_eqNodeS y7 y11).bind (fun y12 => (bif (!y12) then
 some false
 else some true)))))))))))))))))) (F_laws_FnExactFirstRow a0 a1 a2) := callL_le (tt := tt) (FT := FT) (SP := SP) (j := 0) rfl (by kernel_rfl)
noncomputable def L_laws_szTableSx0 (a0 : List STable) (f0 : (Int × Int × Int) → Option (Ex Int Yt19)) (v1 : Int) (v2 : Int) (v3 : Int) : Option (Ex Int Yt19) :=
 (bif (decide (v3 < (a0.length : Int))) then
 (ix a0 v3).bind (fun z4 => (F_laws_szTable z4 v1).bind (fun y5 => (bif (decide (y5 < 0)) then
 some (.ret (-1))
 else f0 (y5, v2, (IntKind.i64.wrap (v3 + 1))))))
 else some (.go (v1, v2)))
@[simp] noncomputable def J_laws_szTableSx0 (v6 : Int) (v7 : Int) : Option Int :=
 some v6
theorem U_laws_szTableS (a0 : List STable) (a1 : Int) : Le ((bif (decide ((IntKind.i64.wrap (a1 - (a0.length : Int))) < 0)) then
 some (-1)
 else joinK (loopF (fun f s => L_laws_szTableSx0 a0 f s.1 s.2.1 s.2.2) ((IntKind.i64.wrap (a1 - (a0.length : Int))), 0, 0))
 (fun s => J_laws_szTableSx0 s.1 s.2))) (F_laws_szTableS a0 a1) := callL_le (tt := tt) (FT := FT) (SP := SP) (j := 1) rfl (by kernel_rfl)
theorem U_laws_szTable (a0 : STable) (a1 : Int) : Le ((bif (decide ((IntKind.i64.wrap (a1 - (a0.1.size : Int))) < 0)) then
 some (-1)
 else some (IntKind.i64.wrap (a1 - (a0.1.size : Int))))) (F_laws_szTable a0 a1) := callL_le (tt := tt) (FT := FT) (SP := SP) (j := 2) rfl (by kernel_rfl)
noncomputable def L_laws_szNodeSx0 (a0 : List SNode) (f0 : (Int × Int × Int) → Option (Ex Int Yt19)) (v1 : Int) (v2 : Int) (v3 : Int) : Option (Ex Int Yt19) :=
 (bif (decide (v3 < (a0.length : Int))) then
 (ix a0 v3).bind (fun z4 => (F_laws_szNode z4 v1).bind (fun y5 => (bif (decide (y5 < 0)) then
 some (.ret (-1))
 else f0 (y5, v2, (IntKind.i64.wrap (v3 + 1))))))
 else some (.go (v1, v2)))
@[simp] noncomputable def J_laws_szNodeSx0 (v6 : Int) (v7 : Int) : Option Int :=
 some v6
theorem U_laws_szNodeS (a0 : List SNode) (a1 : Int) : Le ((bif (decide ((IntKind.i64.wrap (a1 - (a0.length : Int))) < 0)) then
 some (-1)
 else joinK (loopF (fun f s => L_laws_szNodeSx0 a0 f s.1 s.2.1 s.2.2) ((IntKind.i64.wrap (a1 - (a0.length : Int))), 0, 0))
 (fun s => J_laws_szNodeSx0 s.1 s.2))) (F_laws_szNodeS a0 a1) := callL_le (tt := tt) (FT := FT) (SP := SP) (j := 3) rfl (by kernel_rfl)
theorem U_laws_szNode (a0 : SNode) (a1 : Int) : Le ((bif (decide ((IntKind.i64.wrap (a1 - (a0.2.1.size : Int))) < 0)) then
 some (-1)
 else (F_laws_szIntS a0.2.2.2.2.2.2.1 (IntKind.i64.wrap (a1 - (a0.2.1.size : Int)))).bind (fun y1 => (bif (decide (y1 < 0)) then
 some (-1)
 else some y1)))) (F_laws_szNode a0 a1) := callL_le (tt := tt) (FT := FT) (SP := SP) (j := 4) rfl (by kernel_rfl)
theorem U_laws_szIntS (a0 : List Int) (a1 : Int) : Le ((bif (decide ((IntKind.i64.wrap (a1 - (a0.length : Int))) < 0)) then
 some (-1)
 else some (IntKind.i64.wrap (a1 - (a0.length : Int))))) (F_laws_szIntS a0 a1) := callL_le (tt := tt) (FT := FT) (SP := SP) (j := 5) rfl (by kernel_rfl)
noncomputable def L_laws_toTableSx0 (a0 : List STable) (f0 : ((List STable) × Int) → Option (Ex (List STable) (List STable))) (v2 : List STable) (v3 : Int) : Option (Ex (List STable) (List STable)) :=
 (bif (decide (v3 < (a0.length : Int))) then
 (ix a0 v3).bind (fun z4 => (F_laws_toTable z4).bind (fun y5 => (ix v2 v3).bind (fun z6 => (stx v2 v3 y5).bind (fun z7 => f0 (z7, (IntKind.i64.wrap (v3 + 1)))))))
 else some (.go v2))
@[simp] noncomputable def J_laws_toTableSx0 (v8 : List STable) : Option (List STable) :=
 some v8
theorem U_laws_toTableS (a0 : List STable) : Le ((mkx (a0.length : Int) ((ByteArray.empty, (0, ())) : STable)).bind (fun z1 => joinK (loopF (fun f s => L_laws_toTableSx0 a0 f s.1 s.2) (z1, 0))
 (fun s => J_laws_toTableSx0 s))) (F_laws_toTableS a0) := callL_le (tt := tt) (FT := FT) (SP := SP) (j := 6) rfl (by kernel_rfl)
theorem U_laws_toTable (a0 : STable) : Le (some (a0.1, (a0.2.1, ()))) (F_laws_toTable a0) := callL_le (tt := tt) (FT := FT) (SP := SP) (j := 7) rfl (by kernel_rfl)
noncomputable def L_laws_toNodeSx0 (a0 : List SNode) (f0 : ((List SNode) × Int) → Option (Ex (List SNode) (List SNode))) (v2 : List SNode) (v3 : Int) : Option (Ex (List SNode) (List SNode)) :=
 (bif (decide (v3 < (a0.length : Int))) then
 (ix a0 v3).bind (fun z4 => (F_laws_toNode z4).bind (fun y5 => (ix v2 v3).bind (fun z6 => (stx v2 v3 y5).bind (fun z7 => f0 (z7, (IntKind.i64.wrap (v3 + 1)))))))
 else some (.go v2))
@[simp] noncomputable def J_laws_toNodeSx0 (v8 : List SNode) : Option (List SNode) :=
 some v8
theorem U_laws_toNodeS (a0 : List SNode) : Le ((mkx (a0.length : Int) ((0, (ByteArray.empty, (0, (0, (0, (false, ([], ()))))))) : SNode)).bind (fun z1 => joinK (loopF (fun f s => L_laws_toNodeSx0 a0 f s.1 s.2) (z1, 0))
 (fun s => J_laws_toNodeSx0 s))) (F_laws_toNodeS a0) := callL_le (tt := tt) (FT := FT) (SP := SP) (j := 8) rfl (by kernel_rfl)
theorem U_laws_toNode (a0 : SNode) : Le ((F_laws_toIntS a0.2.2.2.2.2.2.1).bind (fun y1 => some (a0.1, (a0.2.1, (a0.2.2.1, (a0.2.2.2.1, (a0.2.2.2.2.1, (a0.2.2.2.2.2.1, (y1, ()))))))))) (F_laws_toNode a0) := callL_le (tt := tt) (FT := FT) (SP := SP) (j := 9) rfl (by kernel_rfl)
noncomputable def L_laws_toIntSx0 (a0 : List Int) (f0 : (Yt10 × Int) → Option (Ex Yt10 Yt10)) (v2 : List Int) (v3 : Int) : Option (Ex Yt10 Yt10) :=
 (bif (decide (v3 < (a0.length : Int))) then
 (ix a0 v3).bind (fun z4 => (ix v2 v3).bind (fun z5 => (stx v2 v3 z4).bind (fun z6 => f0 (z6, (IntKind.i64.wrap (v3 + 1))))))
 else some (.go v2))
@[simp] noncomputable def J_laws_toIntSx0 (v7 : List Int) : Option Yt10 :=
 some v7
theorem U_laws_toIntS (a0 : List Int) : Le ((mkx (a0.length : Int) (0 : Int)).bind (fun z1 => joinK (loopF (fun f s => L_laws_toIntSx0 a0 f s.1 s.2) (z1, 0))
 (fun s => J_laws_toIntSx0 s))) (F_laws_toIntS a0) := callL_le (tt := tt) (FT := FT) (SP := SP) (j := 10) rfl (by kernel_rfl)
@[simp] noncomputable def J_spec_FirstRowx0 (y2 : Yt14) (v3 : Bool) : Option ByteArray :=
 (bif v3 then
 some ByteArray.empty
 else (ix y2.1 0).bind (fun z4 => (F_spec_RowText z4).bind (fun y5 => some y5)))
theorem U_spec_FirstRow (a0 : List STable) (a1 : List SNode) (a2 : Int) : Le ((F_spec_StoreFrom a0 a2).bind (fun y1 => (F_spec_EvalPlan a0 y1 a1).bind (fun y2 => joinK ((bif (y2.2 != 0) then
 some (.go true)
 else some (.go ((y2.1.length : Int) == 0))))
 (fun s => J_spec_FirstRowx0 y2 s)))) (F_spec_FirstRow a0 a1 a2) := callL_le (tt := tt) (FT := FT) (SP := SP) (j := 11) rfl (by kernel_rfl)
@[simp] noncomputable def J_spec_StoreFromx6 (v13 : List Int) (v14 : Int) (y16 : Yt19) (f2 : (Int × Yt10 × Int) → Option Yt22) (v18 : Int) : Option Yt22 :=
 (apx v13 ([v18])).bind (fun z19 => f2 (y16.2, z19, (IntKind.i64.wrap (v14 + 1))))
noncomputable def L_spec_StoreFromx2 (a0 : List STable) (v6 : Int) (f2 : (Int × Yt10 × Int) → Option Yt22) (v12 : Int) (v13 : List Int) (v14 : Int) : Option Yt22 :=
 (ix a0 v6).bind (fun z15 => (bif (decide (v14 < z15.2.1)) then
 (F_spec_l13Next v12).bind (fun y16 => (remx y16.1 6).bind (fun z17 => joinK ((bif (z17 == 5) then
 some (.go (-2000000))
 else some (.go z17)))
 (fun s => J_spec_StoreFromx6 v13 v14 y16 f2 s)))
 else some (.go (v12, v13))))
@[simp] noncomputable def J_spec_StoreFromx5 (v10 : List Yt10) (v20 : Int) (v21 : List Int) : Option (Ex (Ex Yt11 (Int × Yt8)) (Int × Yt8)) :=
 (apx v10 ([v21])).bind (fun z22 => some (.go (v20, z22)))
@[simp] noncomputable def J_spec_StoreFromx4 (v11 : Int) (f1 : (Int × Yt8 × Int) → Option (Ex Yt11 (Int × Yt8))) (v23 : Int) (v24 : List Yt10) : Option (Ex Yt11 (Int × Yt8)) :=
 f1 (v23, v24, (IntKind.i64.wrap (v11 - 1)))
noncomputable def L_spec_StoreFromx1 (a0 : List STable) (v6 : Int) (f1 : (Int × Yt8 × Int) → Option (Ex Yt11 (Int × Yt8))) (v9 : Int) (v10 : List Yt10) (v11 : Int) : Option (Ex Yt11 (Int × Yt8)) :=
 (bif (decide (v11 > 0)) then
 joinK (joinK (loopF (fun f s => L_spec_StoreFromx2 a0 v6 f s.1 s.2.1 s.2.2) (v9, [], 0))
 (fun s => J_spec_StoreFromx5 v10 s.1 s.2))
 (fun s => J_spec_StoreFromx4 v11 f1 s.1 s.2)
 else some (.go (v9, v10)))
@[simp] noncomputable def J_spec_StoreFromx3 (v4 : List Yt8) (v25 : Int) (v26 : List Yt10) : Option Yt11 :=
 (apx v4 ([v26])).bind (fun z27 => some (.go (z27, v25)))
@[simp] noncomputable def J_spec_StoreFromx2 (v6 : Int) (f0 : (Yt23 × Int × Int) → Option (Ex Yt23 Yt23)) (v28 : List Yt8) (v29 : Int) : Option (Ex Yt23 Yt23) :=
 f0 (v28, v29, (IntKind.i64.wrap (v6 + 1)))
noncomputable def L_spec_StoreFromx0 (a0 : List STable) (f0 : (Yt23 × Int × Int) → Option (Ex Yt23 Yt23)) (v4 : List Yt8) (v5 : Int) (v6 : Int) : Option (Ex Yt23 Yt23) :=
 (bif (decide (v6 < (a0.length : Int))) then
 joinK (joinK ((F_spec_l13Next v5).bind (fun y7 => (remx y7.1 5).bind (fun z8 => loopF (fun f s => L_spec_StoreFromx1 a0 v6 f s.1 s.2.1 s.2.2) (y7.2, [], z8))))
 (fun s => J_spec_StoreFromx3 v4 s.1 s.2))
 (fun s => J_spec_StoreFromx2 v6 f0 s.1 s.2)
 else some (.go v4))
@[simp] noncomputable def J_spec_StoreFromx1 (v30 : List Yt8) : Option Yt23 :=
 some v30
@[simp] noncomputable def J_spec_StoreFromx0 (a0 : List STable) (a1 : Int) (v3 : Bool) : Option Yt23 :=
 (bif v3 then
 some ([])
 else joinK (loopF (fun f s => L_spec_StoreFromx0 a0 f s.1 s.2.1 s.2.2) ([], a1, 0))
 (fun s => J_spec_StoreFromx1 s))
theorem U_spec_StoreFrom (a0 : List STable) (a1 : Int) : Le (joinK ((F_spec_SchemaOk a0).bind (fun y1 => (bif (!y1) then
 some (.go true)
 else (F_spec_l01In a1 0 65536).bind (fun y2 => some (.go (!y2))))))
 (fun s => J_spec_StoreFromx0 a0 a1 s)) (F_spec_StoreFrom a0 a1) := callL_le (tt := tt) (FT := FT) (SP := SP) (j := 12) rfl (by kernel_rfl)
@[simp] noncomputable def J_spec_SchemaOkx1 (v1 : Bool) (v2 : Int) (f0 : Yt20 → Option Yt13) (v10 : Bool) : Option Yt13 :=
 (bif v10 then
 some (.ret false)
 else f0 (v1, (IntKind.i64.wrap (v2 + 1))))
noncomputable def L_spec_SchemaOkx0 (a0 : List STable) (f0 : Yt20 → Option Yt13) (v1 : Bool) (v2 : Int) : Option Yt13 :=
 (bif (decide (v2 < (a0.length : Int))) then
 joinK ((ix a0 v2).bind (fun z3 => (F_spec_WordOk z3.1).bind (fun y4 => (bif (!y4) then
 some (.go true)
 else (ix a0 v2).bind (fun z5 => (F_spec_l01In z5.2.1 1 6).bind (fun y6 => (bif (!y6) then
 some (.go true)
 else (bif (decide (v2 > 0)) then
 (ix a0 (IntKind.i64.wrap (v2 - 1))).bind (fun z7 => (ix a0 v2).bind (fun z8 => (F_spec_l01Less z7.1 z8.1).bind (fun y9 => some (.go (!y9)))))
 else some (.go false)))))))))
 (fun s => J_spec_SchemaOkx1 v1 v2 f0 s)
 else some (.go v1))
@[simp] noncomputable def J_spec_SchemaOkx0 (v11 : Bool) : Option Bool :=
 some true
theorem U_spec_SchemaOk (a0 : List STable) : Le ((bif (decide ((a0.length : Int) > 8)) then
 some false
 else joinK (loopF (fun f s => L_spec_SchemaOkx0 a0 f s.1 s.2) (false, 0))
 (fun s => J_spec_SchemaOkx0 s))) (F_spec_SchemaOk a0) := callL_le (tt := tt) (FT := FT) (SP := SP) (j := 13) rfl (by kernel_rfl)
@[simp] noncomputable def J_spec_WordOkx2 (v4 : Bool) (v5 : Int) (f0 : Yt20 → Option Yt13) (v12 : Bool) : Option Yt13 :=
 (bif v12 then
 some (.ret false)
 else f0 (v4, (IntKind.i64.wrap (v5 + 1))))
noncomputable def L_spec_WordOkx0 (a0 : ByteArray) (f0 : Yt20 → Option Yt13) (v4 : Bool) (v5 : Int) : Option Yt13 :=
 (bif (decide (v5 < (a0.size : Int))) then
 joinK ((bix a0 v5).bind (fun z6 => (bif (decide (z6 < 97)) then
 (bix a0 v5).bind (fun z7 => (bif (decide (z7 < 48)) then
 some (.go true)
 else (bix a0 v5).bind (fun z8 => some (.go (decide (z8 > 57))))))
 else (bix a0 v5).bind (fun z9 => (bif (decide (z9 > 122)) then
 (bix a0 v5).bind (fun z10 => (bif (decide (z10 < 48)) then
 some (.go true)
 else (bix a0 v5).bind (fun z11 => some (.go (decide (z11 > 57))))))
 else some (.go false))))))
 (fun s => J_spec_WordOkx2 v4 v5 f0 s)
 else some (.go v4))
@[simp] noncomputable def J_spec_WordOkx1 (v13 : Bool) : Option Bool :=
 some true
@[simp] noncomputable def J_spec_WordOkx0 (a0 : ByteArray) (v3 : Bool) : Option Bool :=
 (bif v3 then
 some false
 else joinK (loopF (fun f s => L_spec_WordOkx0 a0 f s.1 s.2) (false, 0))
 (fun s => J_spec_WordOkx1 s))
theorem U_spec_WordOk (a0 : ByteArray) : Le (joinK ((F_spec_l01In (a0.size : Int) 1 12).bind (fun y1 => (bif (!y1) then
 some (.go true)
 else (bix a0 0).bind (fun z2 => some (.go (decide (z2 < 97)))))))
 (fun s => J_spec_WordOkx0 a0 s)) (F_spec_WordOk a0) := callL_le (tt := tt) (FT := FT) (SP := SP) (j := 14) rfl (by kernel_rfl)
@[simp] noncomputable def J_spec_l01Inx0 (v1 : Bool) : Option Bool :=
 some v1
theorem U_spec_l01In (a0 : Int) (a1 : Int) (a2 : Int) : Le (joinK ((bif (decide (a1 ≤ a0)) then
 some (.go (decide (a0 ≤ a2)))
 else some (.go false)))
 (fun s => J_spec_l01Inx0 s)) (F_spec_l01In a0 a1 a2) := callL_le (tt := tt) (FT := FT) (SP := SP) (j := 15) rfl (by kernel_rfl)
@[simp] noncomputable def J_spec_l01Lessx1 (a0 : ByteArray) (a1 : ByteArray) (v1 : Bool) (v2 : Int) (f0 : Yt20 → Option Yt13) (v3 : Bool) : Option Yt13 :=
 (bif v3 then
 (bix a0 v2).bind (fun z4 => (bix a1 v2).bind (fun z5 => (bif (z4 != z5) then
 (bix a0 v2).bind (fun z6 => (bix a1 v2).bind (fun z7 => some (.ret (decide (z6 < z7)))))
 else f0 (v1, (IntKind.i64.wrap (v2 + 1))))))
 else some (.go v1))
noncomputable def L_spec_l01Lessx0 (a0 : ByteArray) (a1 : ByteArray) (f0 : Yt20 → Option Yt13) (v1 : Bool) (v2 : Int) : Option Yt13 :=
 joinK ((bif (decide (v2 < (a0.size : Int))) then
 some (.go (decide (v2 < (a1.size : Int))))
 else some (.go false)))
 (fun s => J_spec_l01Lessx1 a0 a1 v1 v2 f0 s)
@[simp] noncomputable def J_spec_l01Lessx0 (a0 : ByteArray) (a1 : ByteArray) (v8 : Bool) : Option Bool :=
 some (decide ((a0.size : Int) < (a1.size : Int)))
theorem U_spec_l01Less (a0 : ByteArray) (a1 : ByteArray) : Le (joinK (loopF (fun f s => L_spec_l01Lessx0 a0 a1 f s.1 s.2) (false, 0))
 (fun s => J_spec_l01Lessx0 a0 a1 s)) (F_spec_l01Less a0 a1) := callL_le (tt := tt) (FT := FT) (SP := SP) (j := 16) rfl (by kernel_rfl)
theorem U_spec_l13Next (a0x0 : Int) : Le ((remx (IntKind.i64.wrap ((IntKind.i64.wrap (a0x0 * 75)) + 74)) 65537).bind (fun z1 => some (z1, z1))) (F_spec_l13Next a0x0) := callL_le (tt := tt) (FT := FT) (SP := SP) (j := 17) rfl (by kernel_rfl)
noncomputable def L_spec_EvalPlanx0 (a2 : List SNode) (f0 : (Yt8 × Int × Int) → Option (Ex Yt14 Yt14)) (v4 : List Yt10) (v5 : Int) (v6 : Int) : Option (Ex Yt14 Yt14) :=
 (bif (decide (v6 < (a2.length : Int))) then
 (ix a2 v6).bind (fun z7 => (bif z7.2.2.2.2.2.1 then
 some (.ret ([], 1))
 else f0 (v4, v5, (IntKind.i64.wrap (v6 + 1)))))
 else some (.go (v4, v5)))
@[simp] noncomputable def J_spec_EvalPlanx1 (a0 : List STable) (a1 : List Yt8) (a2 : List SNode) (v8 : List Yt10) (v9 : Int) : Option Yt14 :=
 (F_spec_l04Eval a0 a1 a2 0).bind (fun y10 => (bif (!y10.2) then
 some ([], 2)
 else (F_spec_l04Copy y10.1).bind (fun y11 => some (y11, 0))))
@[simp] noncomputable def J_spec_EvalPlanx0 (a0 : List STable) (a1 : List Yt8) (a2 : List SNode) (v3 : Bool) : Option Yt14 :=
 (bif v3 then
 some ([], 1)
 else joinK (loopF (fun f s => L_spec_EvalPlanx0 a2 f s.1 s.2.1 s.2.2) ([], 0, 0))
 (fun s => J_spec_EvalPlanx1 a0 a1 a2 s.1 s.2))
theorem U_spec_EvalPlan (a0 : List STable) (a1 : List Yt8) (a2 : List SNode) : Le (joinK ((F_spec_StoreOk a0 a1).bind (fun y1 => (bif (!y1) then
 some (.go true)
 else (F_spec_TypedOk a0 a2).bind (fun y2 => some (.go (!y2))))))
 (fun s => J_spec_EvalPlanx0 a0 a1 a2 s)) (F_spec_EvalPlan a0 a1 a2) := callL_le (tt := tt) (FT := FT) (SP := SP) (j := 18) rfl (by kernel_rfl)
noncomputable def L_spec_StoreOkx2 (a1 : List Yt8) (v4 : Int) (v7 : Int) (f2 : Yt20 → Option (Ex Yt30 Bool)) (v12 : Bool) (v13 : Int) : Option (Ex Yt30 Bool) :=
 (ix a1 v4).bind (fun z14 => (ix z14 v7).bind (fun z15 => (bif (decide (v13 < (z15.length : Int))) then
 (ix a1 v4).bind (fun z16 => (ix z16 v7).bind (fun z17 => (ix z17 v13).bind (fun z18 => (F_spec_l04Value z18).bind (fun y19 => (bif (!y19) then
 some (.ret (.ret (.ret false)))
 else f2 (v12, (IntKind.i64.wrap (v13 + 1))))))))
 else some (.go v12))))
@[simp] noncomputable def J_spec_StoreOkx3 (v7 : Int) (f1 : Yt20 → Option Yt30) (v20 : Bool) : Option Yt30 :=
 f1 (v20, (IntKind.i64.wrap (v7 + 1)))
noncomputable def L_spec_StoreOkx1 (a0 : List STable) (a1 : List Yt8) (v4 : Int) (f1 : Yt20 → Option Yt30) (v6 : Bool) (v7 : Int) : Option Yt30 :=
 (ix a1 v4).bind (fun z8 => (bif (decide (v7 < (z8.length : Int))) then
 joinK ((ix a1 v4).bind (fun z9 => (ix z9 v7).bind (fun z10 => (ix a0 v4).bind (fun z11 => (bif ((z10.length : Int) != z11.2.1) then
 some (.ret (.ret (.ret false)))
 else loopF (fun f s => L_spec_StoreOkx2 a1 v4 v7 f s.1 s.2) (v6, 0))))))
 (fun s => J_spec_StoreOkx3 v7 f1 s)
 else some (.go v6)))
@[simp] noncomputable def J_spec_StoreOkx2 (v4 : Int) (f0 : Yt20 → Option Yt13) (v21 : Bool) : Option Yt13 :=
 f0 (v21, (IntKind.i64.wrap (v4 + 1)))
noncomputable def L_spec_StoreOkx0 (a0 : List STable) (a1 : List Yt8) (f0 : Yt20 → Option Yt13) (v3 : Bool) (v4 : Int) : Option Yt13 :=
 (bif (decide (v4 < (a0.length : Int))) then
 joinK ((ix a1 v4).bind (fun z5 => (bif (decide ((z5.length : Int) > 40)) then
 some (.ret (.ret false))
 else loopF (fun f s => L_spec_StoreOkx1 a0 a1 v4 f s.1 s.2) (v3, 0))))
 (fun s => J_spec_StoreOkx2 v4 f0 s)
 else some (.go v3))
@[simp] noncomputable def J_spec_StoreOkx1 (v22 : Bool) : Option Bool :=
 some true
@[simp] noncomputable def J_spec_StoreOkx0 (a0 : List STable) (a1 : List Yt8) (v2 : Bool) : Option Bool :=
 (bif v2 then
 some false
 else joinK (loopF (fun f s => L_spec_StoreOkx0 a0 a1 f s.1 s.2) (false, 0))
 (fun s => J_spec_StoreOkx1 s))
theorem U_spec_StoreOk (a0 : List STable) (a1 : List Yt8) : Le (joinK ((F_spec_SchemaOk a0).bind (fun y1 => (bif (!y1) then
 some (.go true)
 else some (.go ((a1.length : Int) != (a0.length : Int))))))
 (fun s => J_spec_StoreOkx0 a0 a1 s)) (F_spec_StoreOk a0 a1) := callL_le (tt := tt) (FT := FT) (SP := SP) (j := 19) rfl (by kernel_rfl)
@[simp] noncomputable def J_spec_l04Valuex0 (v2 : Bool) : Option Bool :=
 some v2
theorem U_spec_l04Value (a0 : Int) : Le (joinK ((F_spec_l01Number a0).bind (fun y1 => (bif y1 then
 some (.go true)
 else some (.go (a0 == (-2000000))))))
 (fun s => J_spec_l04Valuex0 s)) (F_spec_l04Value a0) := callL_le (tt := tt) (FT := FT) (SP := SP) (j := 20) rfl (by kernel_rfl)
theorem U_spec_l01Number (a0 : Int) : Le ((F_spec_l01In a0 (-1000000) 1000000).bind (fun y1 => some y1)) (F_spec_l01Number a0) := callL_le (tt := tt) (FT := FT) (SP := SP) (j := 21) rfl (by kernel_rfl)
theorem U_spec_TypedOk (a0 : List STable) (a1 : List SNode) : Le ((F_spec_WidthOf a0 a1).bind (fun y1 => some (y1 != (-1)))) (F_spec_TypedOk a0 a1) := callL_le (tt := tt) (FT := FT) (SP := SP) (j := 22) rfl (by kernel_rfl)
@[simp] noncomputable def J_spec_WidthOfx0 (a0 : List STable) (a1 : List SNode) (v3 : Bool) : Option Int :=
 (bif v3 then
 some (-1)
 else (F_spec_l03Width a0 a1 0).bind (fun y4 => some y4))
theorem U_spec_WidthOf (a0 : List STable) (a1 : List SNode) : Le (joinK ((F_spec_SchemaOk a0).bind (fun y1 => (bif (!y1) then
 some (.go true)
 else (F_spec_PlanOk a1).bind (fun y2 => some (.go (!y2))))))
 (fun s => J_spec_WidthOfx0 a0 a1 s)) (F_spec_WidthOf a0 a1) := callL_le (tt := tt) (FT := FT) (SP := SP) (j := 23) rfl (by kernel_rfl)
noncomputable def L_spec_PlanOkx0 (a0 : List SNode) (f0 : Yt20 → Option Yt13) (v2 : Bool) (v3 : Int) : Option Yt13 :=
 (bif (decide (v3 < (a0.length : Int))) then
 (ix a0 v3).bind (fun z4 => (F_spec_NodeOk z4).bind (fun y5 => (bif (!y5) then
 some (.ret false)
 else f0 (v2, (IntKind.i64.wrap (v3 + 1))))))
 else some (.go v2))
@[simp] noncomputable def J_spec_PlanOkx0 (a0 : List SNode) (v6 : Bool) : Option Bool :=
 (F_spec_l02End a0 0 10).bind (fun y7 => some (y7.1 == (a0.length : Int)))
theorem U_spec_PlanOk (a0 : List SNode) : Le ((F_spec_l01In (a0.length : Int) 1 40).bind (fun y1 => (bif (!y1) then
 some false
 else joinK (loopF (fun f s => L_spec_PlanOkx0 a0 f s.1 s.2) (false, 0))
 (fun s => J_spec_PlanOkx0 a0 s)))) (F_spec_PlanOk a0) := callL_le (tt := tt) (FT := FT) (SP := SP) (j := 24) rfl (by kernel_rfl)
@[simp] noncomputable def J_spec_NodeOkx2 (v11 : Bool) : Option Yt13 :=
 some (.ret v11)
@[simp] noncomputable def J_spec_NodeOkx3 (v15 : Bool) : Option Yt13 :=
 some (.ret v15)
noncomputable def L_spec_NodeOkx0 (a0 : SNode) (f0 : Yt20 → Option Yt30) (v16 : Bool) (v17 : Int) : Option Yt30 :=
 (bif (decide (v17 < (a0.2.2.2.2.2.2.1.length : Int))) then
 (ix a0.2.2.2.2.2.2.1 v17).bind (fun z18 => (F_spec_l02Col z18).bind (fun y19 => (bif (!y19) then
 some (.ret (.ret false))
 else f0 (v16, (IntKind.i64.wrap (v17 + 1))))))
 else some (.go v16))
@[simp] noncomputable def J_spec_NodeOkx5 (v22 : Bool) : Option Yt13 :=
 some (.ret v22)
@[simp] noncomputable def J_spec_NodeOkx4 (a0 : SNode) (v20 : Bool) : Option Yt13 :=
 joinK ((F_spec_l01In (a0.2.2.2.2.2.2.1.length : Int) 1 6).bind (fun y21 => (bif y21 then
 (bif (a0.2.2.1 == 0) then
 (bif (a0.2.2.2.2.1 == 0) then
 some (.go (!a0.2.2.2.2.2.1))
 else some (.go false))
 else some (.go false))
 else some (.go false))))
 (fun s => J_spec_NodeOkx5 s)
@[simp] noncomputable def J_spec_NodeOkx6 (v25 : Bool) : Option Yt13 :=
 some (.ret v25)
@[simp] noncomputable def J_spec_NodeOkx7 (v27 : Bool) : Option Yt13 :=
 some (.ret v27)
@[simp] noncomputable def J_spec_NodeOkx8 (v29 : Bool) : Option Yt13 :=
 some (.ret v29)
@[simp] noncomputable def J_spec_NodeOkx10 (v31 : Bool) : Option Yt13 :=
 some (.ret v31)
@[simp] noncomputable def J_spec_NodeOkx9 (a0 : SNode) (v30 : Bool) : Option Yt13 :=
 (bif v30 then
 joinK ((bif (a0.2.2.1 == 0) then
 (bif (a0.2.2.2.2.1 == 0) then
 some (.go (!a0.2.2.2.2.2.1))
 else some (.go false))
 else some (.go false)))
 (fun s => J_spec_NodeOkx10 s)
 else some (.go false))
@[simp] noncomputable def J_spec_NodeOkx1 (v32 : Bool) : Option Bool :=
 some false
@[simp] noncomputable def J_spec_NodeOkx0 (a0 : SNode) (v9 : Bool) : Option Bool :=
 (bif v9 then
 some false
 else joinK ((bif (a0.1 == 0) then
 joinK ((F_spec_WordOk a0.2.1).bind (fun y10 => (bif y10 then
 (bif (a0.2.2.1 == 0) then
 (bif (a0.2.2.2.2.1 == 0) then
 some (.go (!a0.2.2.2.2.2.1))
 else some (.go false))
 else some (.go false))
 else some (.go false))))
 (fun s => J_spec_NodeOkx2 s)
 else (bif (a0.1 == 1) then
 joinK ((F_spec_l02Col a0.2.2.1).bind (fun y12 => (bif y12 then
 (F_spec_l01In a0.2.2.2.1 0 3).bind (fun y13 => (bif y13 then
 (F_spec_l01Number a0.2.2.2.2.1).bind (fun y14 => (bif y14 then
 (bif (a0.2.2.2.1 != 3) then
 some (.go true)
 else (bif (a0.2.2.2.2.1 == 0) then
 some (.go (!a0.2.2.2.2.2.1))
 else some (.go false)))
 else some (.go false)))
 else some (.go false)))
 else some (.go false))))
 (fun s => J_spec_NodeOkx3 s)
 else (bif (a0.1 == 2) then
 joinK (loopF (fun f s => L_spec_NodeOkx0 a0 f s.1 s.2) (false, 0))
 (fun s => J_spec_NodeOkx4 a0 s)
 else (bif (a0.1 == 3) then
 joinK ((F_spec_l02Col a0.2.2.1).bind (fun y23 => (bif y23 then
 (F_spec_l02Col a0.2.2.2.2.1).bind (fun y24 => (bif y24 then
 some (.go (!a0.2.2.2.2.2.1))
 else some (.go false)))
 else some (.go false))))
 (fun s => J_spec_NodeOkx6 s)
 else (bif (a0.1 == 5) then
 joinK ((F_spec_l02Col a0.2.2.1).bind (fun y26 => (bif y26 then
 (bif (a0.2.2.2.2.1 == 0) then
 some (.go (!a0.2.2.2.2.2.1))
 else some (.go false))
 else some (.go false))))
 (fun s => J_spec_NodeOkx7 s)
 else (bif (a0.1 == 6) then
 joinK ((bif (a0.2.2.1 == 0) then
 (F_spec_l01In a0.2.2.2.2.1 0 1000000).bind (fun y28 => some (.go y28))
 else some (.go false)))
 (fun s => J_spec_NodeOkx8 s)
 else joinK ((bif (a0.1 == 4) then
 some (.go true)
 else some (.go (a0.1 == 7))))
 (fun s => J_spec_NodeOkx9 a0 s))))))))
 (fun s => J_spec_NodeOkx1 s))
theorem U_spec_NodeOk (a0 : SNode) : Le (joinK ((bif (a0.1 != 0) then
 (bif (!(a0.2.1.toList == ByteArray.empty.toList)) then
 some (.go true)
 else (bif (a0.1 != 2) then
 (bif (decide ((a0.2.2.2.2.2.2.1.length : Int) > 0)) then
 some (.go true)
 else (bif (a0.1 != 1) then
 (bif (a0.2.2.2.1 != 0) then
 some (.go true)
 else (bif a0.2.2.2.2.2.1 then
 (F_spec_l01In a0.2.2.2.2.1 0 39).bind (fun y1 => some (.go (!y1)))
 else some (.go false)))
 else (bif a0.2.2.2.2.2.1 then
 (F_spec_l01In a0.2.2.2.2.1 0 39).bind (fun y2 => some (.go (!y2)))
 else some (.go false))))
 else (bif (a0.1 != 1) then
 (bif (a0.2.2.2.1 != 0) then
 some (.go true)
 else (bif a0.2.2.2.2.2.1 then
 (F_spec_l01In a0.2.2.2.2.1 0 39).bind (fun y3 => some (.go (!y3)))
 else some (.go false)))
 else (bif a0.2.2.2.2.2.1 then
 (F_spec_l01In a0.2.2.2.2.1 0 39).bind (fun y4 => some (.go (!y4)))
 else some (.go false)))))
 else (bif (a0.1 != 2) then
 (bif (decide ((a0.2.2.2.2.2.2.1.length : Int) > 0)) then
 some (.go true)
 else (bif (a0.1 != 1) then
 (bif (a0.2.2.2.1 != 0) then
 some (.go true)
 else (bif a0.2.2.2.2.2.1 then
 (F_spec_l01In a0.2.2.2.2.1 0 39).bind (fun y5 => some (.go (!y5)))
 else some (.go false)))
 else (bif a0.2.2.2.2.2.1 then
 (F_spec_l01In a0.2.2.2.2.1 0 39).bind (fun y6 => some (.go (!y6)))
 else some (.go false))))
 else (bif (a0.1 != 1) then
 (bif (a0.2.2.2.1 != 0) then
 some (.go true)
 else (bif a0.2.2.2.2.2.1 then
 (F_spec_l01In a0.2.2.2.2.1 0 39).bind (fun y7 => some (.go (!y7)))
 else some (.go false)))
 else (bif a0.2.2.2.2.2.1 then
 (F_spec_l01In a0.2.2.2.2.1 0 39).bind (fun y8 => some (.go (!y8)))
 else some (.go false))))))
 (fun s => J_spec_NodeOkx0 a0 s)) (F_spec_NodeOk a0) := callL_le (tt := tt) (FT := FT) (SP := SP) (j := 25) rfl (by kernel_rfl)
theorem U_spec_l02Col (a0 : Int) : Le ((F_spec_l01In a0 0 63).bind (fun y1 => some y1)) (F_spec_l02Col a0) := callL_le (tt := tt) (FT := FT) (SP := SP) (j := 26) rfl (by kernel_rfl)
@[simp] noncomputable def J_spec_l02Endx2 (v6 : Int) (f0 : (Int × Int × Int × Int × Int) → Option Yt31) (v10 : Int) (v11 : Int) (v12 : Int) (v13 : Int) : Option Yt31 :=
 f0 (v10, v11, v12, v13, (IntKind.i64.wrap (v6 + 1)))
noncomputable def L_spec_l02Endx0 (a0 : List SNode) (a1 : Int) (a2 : Int) (f0 : (Int × Int × Int × Int × Int) → Option Yt31) (v2 : Int) (v3 : Int) (v4 : Int) (v5 : Int) (v6 : Int) : Option Yt31 :=
 (ix a0 a1).bind (fun z7 => (F_spec_ArityOf z7.1).bind (fun y8 => (bif (decide (v6 < y8)) then
 joinK ((F_spec_l02End a0 v4 (IntKind.i64.wrap (a2 - 1))).bind (fun y9 => (bif (decide (y9.1 < 0)) then
 some (.ret (.ret ((-1), 0)))
 else (bif (decide (y9.2 > v5)) then
 some (.go (v2, v3, y9.1, y9.2))
 else some (.go (v2, v3, y9.1, v5))))))
 (fun s => J_spec_l02Endx2 v6 f0 s.1 s.2.1 s.2.2.1 s.2.2.2)
 else some (.go (v2, v3, v4, v5)))))
@[simp] noncomputable def J_spec_l02Endx1 (v14 : Int) (v15 : Int) (v16 : Int) (v17 : Int) : Option Yt19 :=
 some (v16, (IntKind.i64.wrap (v17 + 1)))
@[simp] noncomputable def J_spec_l02Endx0 (a0 : List SNode) (a1 : Int) (a2 : Int) (v1 : Bool) : Option Yt19 :=
 (bif v1 then
 some ((-1), 0)
 else joinK (loopF (fun f s => L_spec_l02Endx0 a0 a1 a2 f s.1 s.2.1 s.2.2.1 s.2.2.2.1 s.2.2.2.2) (0, 0, (IntKind.i64.wrap (a1 + 1)), 0, 0))
 (fun s => J_spec_l02Endx1 s.1 s.2.1 s.2.2.1 s.2.2.2))
theorem U_spec_l02End (a0 : List SNode) (a1 : Int) (a2 : Int) : Le (joinK ((bif (decide (a1 ≥ (a0.length : Int))) then
 some (.go true)
 else some (.go (a2 == 0))))
 (fun s => J_spec_l02Endx0 a0 a1 a2 s)) (F_spec_l02End a0 a1 a2) := callL_le (tt := tt) (FT := FT) (SP := SP) (j := 27) rfl (by kernel_rfl)
@[simp] noncomputable def J_spec_ArityOfx1 (v2 : Bool) : Option Int :=
 (bif v2 then
 some 1
 else some (-1))
@[simp] noncomputable def J_spec_ArityOfx0 (a0 : Int) (v1 : Bool) : Option Int :=
 (bif v1 then
 some 2
 else joinK ((bif (a0 == 1) then
 some (.go true)
 else (bif (a0 == 2) then
 some (.go true)
 else (bif (a0 == 5) then
 some (.go true)
 else (bif (a0 == 6) then
 some (.go true)
 else some (.go (a0 == 7)))))))
 (fun s => J_spec_ArityOfx1 s))
theorem U_spec_ArityOf (a0 : Int) : Le ((bif (a0 == 0) then
 some 0
 else joinK ((bif (a0 == 3) then
 some (.go true)
 else some (.go (a0 == 4))))
 (fun s => J_spec_ArityOfx0 a0 s))) (F_spec_ArityOf a0) := callL_le (tt := tt) (FT := FT) (SP := SP) (j := 28) rfl (by kernel_rfl)
noncomputable def L_spec_l03Widthx0 (a0 : List STable) (a1 : List SNode) (y2 : List Int) (f0 : (Int × Yt10 × Int) → Option (Ex Int (Int × Yt10))) (v3 : Int) (v4 : List Int) (v5 : Int) : Option (Ex Int (Int × Yt10)) :=
 (bif (decide (v5 < (y2.length : Int))) then
 (ix y2 v5).bind (fun z6 => (F_spec_l03Width a0 a1 z6).bind (fun y7 => (bif (decide (y7 < 0)) then
 some (.ret (-1))
 else (apx v4 ([y7])).bind (fun z8 => f0 (v3, z8, (IntKind.i64.wrap (v5 + 1)))))))
 else some (.go (v3, v4)))
noncomputable def L_spec_l03Widthx1 (z1 : SNode) (v10 : List Int) (f1 : Yt19 → Option (Ex Yt21 Int)) (v15 : Int) (v16 : Int) : Option (Ex Yt21 Int) :=
 (bif (decide (v16 < (z1.2.2.2.2.2.2.1.length : Int))) then
 (ix z1.2.2.2.2.2.2.1 v16).bind (fun z17 => (ix v10 0).bind (fun z18 => (bif (decide (z17 ≥ z18)) then
 some (.ret (.ret (-1)))
 else f1 (v15, (IntKind.i64.wrap (v16 + 1))))))
 else some (.go v15))
@[simp] noncomputable def J_spec_l03Widthx3 (z1 : SNode) (v19 : Int) : Option Yt21 :=
 some (.ret (z1.2.2.2.2.2.2.1.length : Int))
@[simp] noncomputable def J_spec_l03Widthx4 (v10 : List Int) (v24 : Bool) : Option Yt21 :=
 (bif v24 then
 some (.ret (-1))
 else (ix v10 0).bind (fun z25 => (ix v10 1).bind (fun z26 => some (.ret (IntKind.i64.wrap (z25 + z26))))))
@[simp] noncomputable def J_spec_l03Widthx2 (z1 : SNode) (v9 : Int) (v10 : List Int) (v13 : Bool) : Option Yt21 :=
 (bif v13 then
 (ix v10 0).bind (fun z14 => (bif (decide (z1.2.2.1 ≥ z14)) then
 some (.ret (-1))
 else some (.go v9)))
 else (bif (z1.1 == 2) then
 joinK (loopF (fun f s => L_spec_l03Widthx1 z1 v10 f s.1 s.2) (v9, 0))
 (fun s => J_spec_l03Widthx3 z1 s)
 else (bif (z1.1 == 3) then
 joinK ((ix v10 0).bind (fun z20 => (bif (decide (z1.2.2.1 ≥ z20)) then
 some (.go true)
 else (ix v10 1).bind (fun z21 => (bif (decide (z1.2.2.2.2.1 ≥ z21)) then
 some (.go true)
 else (ix v10 0).bind (fun z22 => (ix v10 1).bind (fun z23 => some (.go (decide ((IntKind.i64.wrap (z22 + z23)) > 64))))))))))
 (fun s => J_spec_l03Widthx4 v10 s)
 else (bif (z1.1 == 4) then
 (ix v10 0).bind (fun z27 => (ix v10 1).bind (fun z28 => (bif (z27 != z28) then
 some (.ret (-1))
 else some (.go v9))))
 else some (.go v9)))))
@[simp] noncomputable def J_spec_l03Widthx1 (v10 : List Int) (v29 : Int) : Option Int :=
 (ix v10 0).bind (fun z30 => some z30)
@[simp] noncomputable def J_spec_l03Widthx0 (a0 : List STable) (z1 : SNode) (v9 : Int) (v10 : List Int) : Option Int :=
 joinK ((bif (z1.1 == 0) then
 (F_spec_l03Find a0 z1.2.1).bind (fun y11 => (bif (decide (y11 < 0)) then
 some (.ret (-1))
 else (ix a0 y11).bind (fun z12 => some (.ret z12.2.1))))
 else joinK ((bif (z1.1 == 1) then
 some (.go true)
 else some (.go (z1.1 == 5))))
 (fun s => J_spec_l03Widthx2 z1 v9 v10 s)))
 (fun s => J_spec_l03Widthx1 v10 s)
theorem U_spec_l03Width (a0 : List STable) (a1 : List SNode) (a2 : Int) : Le ((ix a1 a2).bind (fun z1 => (F_spec_l02Kids a1 a2).bind (fun y2 => joinK (loopF (fun f s => L_spec_l03Widthx0 a0 a1 y2 f s.1 s.2.1 s.2.2) (0, [], 0))
 (fun s => J_spec_l03Widthx0 a0 z1 s.1 s.2)))) (F_spec_l03Width a0 a1 a2) := callL_le (tt := tt) (FT := FT) (SP := SP) (j := 29) rfl (by kernel_rfl)
noncomputable def L_spec_l02Kidsx0 (a0 : List SNode) (a1 : Int) (f0 : (Yt10 × Int × Int) → Option (Ex Yt10 Yt10)) (v1 : List Int) (v2 : Int) (v3 : Int) : Option (Ex Yt10 Yt10) :=
 (ix a0 a1).bind (fun z4 => (F_spec_ArityOf z4.1).bind (fun y5 => (bif (decide (v3 < y5)) then
 (apx v1 ([v2])).bind (fun z6 => (F_spec_l02End a0 v2 10).bind (fun y7 => f0 (z6, y7.1, (IntKind.i64.wrap (v3 + 1)))))
 else some (.go v1))))
@[simp] noncomputable def J_spec_l02Kidsx0 (v8 : List Int) : Option Yt10 :=
 some v8
theorem U_spec_l02Kids (a0 : List SNode) (a1 : Int) : Le (joinK (loopF (fun f s => L_spec_l02Kidsx0 a0 a1 f s.1 s.2.1 s.2.2) ([], (IntKind.i64.wrap (a1 + 1)), 0))
 (fun s => J_spec_l02Kidsx0 s)) (F_spec_l02Kids a0 a1) := callL_le (tt := tt) (FT := FT) (SP := SP) (j := 30) rfl (by kernel_rfl)
noncomputable def L_spec_l03Findx0 (a0 : List STable) (a1 : ByteArray) (f0 : Yt19 → Option Yt21) (v1 : Int) (v2 : Int) : Option Yt21 :=
 (bif (decide (v2 < (a0.length : Int))) then
 (ix a0 v2).bind (fun z3 => (bif (z3.1.toList == a1.toList) then
 some (.ret v2)
 else f0 (v1, (IntKind.i64.wrap (v2 + 1)))))
 else some (.go v1))
@[simp] noncomputable def J_spec_l03Findx0 (v4 : Int) : Option Int :=
 some (-1)
theorem U_spec_l03Find (a0 : List STable) (a1 : ByteArray) : Le (joinK (loopF (fun f s => L_spec_l03Findx0 a0 a1 f s.1 s.2) (0, 0))
 (fun s => J_spec_l03Findx0 s)) (F_spec_l03Find a0 a1) := callL_le (tt := tt) (FT := FT) (SP := SP) (j := 31) rfl (by kernel_rfl)
noncomputable def L_spec_l04Evalx0 (a0 : List STable) (a1 : List Yt8) (a2 : List SNode) (y2 : List Int) (f0 : (Yt8 × Bool × Yt23 × Int) → Option (Ex Yt15 (Yt8 × Bool × Yt23))) (v3 : List Yt10) (v4 : Bool) (v5 : List Yt8) (v6 : Int) : Option (Ex Yt15 (Yt8 × Bool × Yt23)) :=
 (bif (decide (v6 < (y2.length : Int))) then
 (ix y2 v6).bind (fun z7 => (F_spec_l04Eval a0 a1 a2 z7).bind (fun y8 => (bif (!y8.2) then
 some (.ret ([], false))
 else (apx v5 ([y8.1])).bind (fun z9 => f0 (v3, v4, z9, (IntKind.i64.wrap (v6 + 1)))))))
 else some (.go (v3, v4, v5)))
noncomputable def L_spec_l04Evalx2 (v12 : List Yt8) (v27 : Int) (f2 : Yt14 → Option (Ex Yt15 Yt8)) (v28 : List Yt10) (v29 : Int) : Option (Ex Yt15 Yt8) :=
 (ix v12 v27).bind (fun z30 => (ix v12 v27).bind (fun z31 => (bif (decide (v29 < (z31.length : Int))) then
 (ix v12 v27).bind (fun z32 => (ix v12 v27).bind (fun z33 => (ix z33 v29).bind (fun z34 => (apx v28 ([z34])).bind (fun z35 => f2 (z35, (IntKind.i64.wrap (v29 + 1)))))))
 else some (.go v28))))
@[simp] noncomputable def J_spec_l04Evalx1 (v27 : Int) (f1 : Yt14 → Option Yt15) (v36 : List Yt10) : Option Yt15 :=
 f1 (v36, (IntKind.i64.wrap (v27 + 1)))
noncomputable def L_spec_l04Evalx1 (v12 : List Yt8) (f1 : Yt14 → Option Yt15) (v26 : List Yt10) (v27 : Int) : Option Yt15 :=
 (bif (decide (v27 < 2)) then
 joinK (loopF (fun f s => L_spec_l04Evalx2 v12 v27 f s.1 s.2) (v26, 0))
 (fun s => J_spec_l04Evalx1 v27 f1 s)
 else some (v26, (decide ((v26.length : Int) ≤ 200))))
@[simp] noncomputable def J_spec_l04Evalx0 (a0 : List STable) (a1 : List Yt8) (z1 : SNode) (v10 : List Yt10) (v11 : Bool) (v12 : List Yt8) : Option Yt15 :=
 (bif (z1.1 == 0) then
 (F_spec_l03Find a0 z1.2.1).bind (fun y13 => (ix a1 y13).bind (fun z14 => some (z14, (decide ((z14.length : Int) ≤ 200)))))
 else (bif (z1.1 == 1) then
 (ix v12 0).bind (fun z15 => (ix v12 0).bind (fun z16 => (F_spec_l04Filter (z1.1, (z1.2.1, (z1.2.2.1, (z1.2.2.2.1, (z1.2.2.2.2.1, (z1.2.2.2.2.2.1, (z1.2.2.2.2.2.2.1, ()))))))) z16).bind (fun y17 => some (y17, (decide ((y17.length : Int) ≤ 200))))))
 else (bif (z1.1 == 2) then
 (ix v12 0).bind (fun z18 => (ix v12 0).bind (fun z19 => (F_spec_l04Keep (z1.1, (z1.2.1, (z1.2.2.1, (z1.2.2.2.1, (z1.2.2.2.2.1, (z1.2.2.2.2.2.1, (z1.2.2.2.2.2.2.1, ()))))))) z19).bind (fun y20 => some (y20, (decide ((y20.length : Int) ≤ 200))))))
 else (bif (z1.1 == 3) then
 (ix v12 0).bind (fun z21 => (ix v12 0).bind (fun z22 => (ix v12 1).bind (fun z23 => (ix v12 1).bind (fun z24 => (F_spec_l04Join (z1.1, (z1.2.1, (z1.2.2.1, (z1.2.2.2.1, (z1.2.2.2.2.1, (z1.2.2.2.2.2.1, (z1.2.2.2.2.2.2.1, ()))))))) z22 z24).bind (fun y25 => some (y25, (decide ((y25.length : Int) ≤ 200))))))))
 else (bif (z1.1 == 4) then
 loopF (fun f s => L_spec_l04Evalx1 v12 f s.1 s.2) ([], 0)
 else (bif (z1.1 == 5) then
 (ix v12 0).bind (fun z37 => (ix v12 0).bind (fun z38 => (F_spec_l04Sort (z1.1, (z1.2.1, (z1.2.2.1, (z1.2.2.2.1, (z1.2.2.2.2.1, (z1.2.2.2.2.2.1, (z1.2.2.2.2.2.2.1, ()))))))) z38).bind (fun y39 => some (y39, (decide ((y39.length : Int) ≤ 200))))))
 else (bif (z1.1 == 6) then
 (ix v12 0).bind (fun z40 => (ix v12 0).bind (fun z41 => (bif (decide (z1.2.2.2.2.1 < (z41.length : Int))) then
 (slx z41 0 z1.2.2.2.2.1).bind (fun z42 => some (z42, (decide ((z42.length : Int) ≤ 200))))
 else some (z41, (decide ((z41.length : Int) ≤ 200))))))
 else (bif (z1.1 == 7) then
 (ix v12 0).bind (fun z43 => (ix v12 0).bind (fun z44 => (F_spec_l04Once z44).bind (fun y45 => some (y45, (decide ((y45.length : Int) ≤ 200))))))
 else some ([], (decide ((([] : List Yt10).length : Int) ≤ 200)))))))))))
theorem U_spec_l04Eval (a0 : List STable) (a1 : List Yt8) (a2 : List SNode) (a3 : Int) : Le ((ix a2 a3).bind (fun z1 => (F_spec_l02Kids a2 a3).bind (fun y2 => joinK (loopF (fun f s => L_spec_l04Evalx0 a0 a1 a2 y2 f s.1 s.2.1 s.2.2.1 s.2.2.2) ([], false, [], 0))
 (fun s => J_spec_l04Evalx0 a0 a1 z1 s.1 s.2.1 s.2.2)))) (F_spec_l04Eval a0 a1 a2 a3) := callL_le (tt := tt) (FT := FT) (SP := SP) (j := 32) rfl (by kernel_rfl)
@[simp] noncomputable def J_spec_l04Filterx1 (v2 : Int) (f0 : Yt14 → Option Yt18) (v8 : List Yt10) : Option Yt18 :=
 f0 (v8, (IntKind.i64.wrap (v2 + 1)))
noncomputable def L_spec_l04Filterx0 (a0 : SNode) (a1 : List Yt10) (f0 : Yt14 → Option Yt18) (v1 : List Yt10) (v2 : Int) : Option Yt18 :=
 (bif (decide (v2 < (a1.length : Int))) then
 joinK ((ix a1 v2).bind (fun z3 => (ix z3 a0.2.2.1).bind (fun z4 => (F_spec_l04Holds (a0.1, (a0.2.1, (a0.2.2.1, (a0.2.2.2.1, (a0.2.2.2.2.1, (a0.2.2.2.2.2.1, (a0.2.2.2.2.2.2.1, ()))))))) z4).bind (fun y5 => (bif y5 then
 (ix a1 v2).bind (fun z6 => (apx v1 ([z6])).bind (fun z7 => some (.go z7)))
 else some (.go v1))))))
 (fun s => J_spec_l04Filterx1 v2 f0 s)
 else some (.go v1))
@[simp] noncomputable def J_spec_l04Filterx0 (v9 : List Yt10) : Option Yt8 :=
 some v9
theorem U_spec_l04Filter (a0 : SNode) (a1 : List Yt10) : Le (joinK (loopF (fun f s => L_spec_l04Filterx0 a0 a1 f s.1 s.2) ([], 0))
 (fun s => J_spec_l04Filterx0 s)) (F_spec_l04Filter a0 a1) := callL_le (tt := tt) (FT := FT) (SP := SP) (j := 33) rfl (by kernel_rfl)
theorem U_spec_l04Holds (a0 : SNode) (a1 : Int) : Le ((bif (a1 == (-2000000)) then
 some (a0.2.2.2.1 == 3)
 else (bif (a0.2.2.2.1 == 0) then
 some (a1 == a0.2.2.2.2.1)
 else (bif (a0.2.2.2.1 == 1) then
 some (decide (a1 < a0.2.2.2.2.1))
 else (bif (a0.2.2.2.1 == 2) then
 some (decide (a1 > a0.2.2.2.2.1))
 else some false))))) (F_spec_l04Holds a0 a1) := callL_le (tt := tt) (FT := FT) (SP := SP) (j := 34) rfl (by kernel_rfl)
noncomputable def L_spec_l04Keepx1 (a0 : SNode) (a1 : List Yt10) (v2 : Int) (f1 : (Yt10 × Int) → Option (Ex Yt26 Yt10)) (v3 : List Int) (v4 : Int) : Option (Ex Yt26 Yt10) :=
 (bif (decide (v4 < (a0.2.2.2.2.2.2.1.length : Int))) then
 (ix a1 v2).bind (fun z5 => (ix a0.2.2.2.2.2.2.1 v4).bind (fun z6 => (ix z5 z6).bind (fun z7 => (apx v3 ([z7])).bind (fun z8 => f1 (z8, (IntKind.i64.wrap (v4 + 1)))))))
 else some (.go v3))
@[simp] noncomputable def J_spec_l04Keepx2 (v1 : List Yt10) (v9 : List Int) : Option Yt26 :=
 (apx v1 ([v9])).bind (fun z10 => some (.go z10))
@[simp] noncomputable def J_spec_l04Keepx1 (v2 : Int) (f0 : Yt14 → Option Yt18) (v11 : List Yt10) : Option Yt18 :=
 f0 (v11, (IntKind.i64.wrap (v2 + 1)))
noncomputable def L_spec_l04Keepx0 (a0 : SNode) (a1 : List Yt10) (f0 : Yt14 → Option Yt18) (v1 : List Yt10) (v2 : Int) : Option Yt18 :=
 (bif (decide (v2 < (a1.length : Int))) then
 joinK (joinK (loopF (fun f s => L_spec_l04Keepx1 a0 a1 v2 f s.1 s.2) ([], 0))
 (fun s => J_spec_l04Keepx2 v1 s))
 (fun s => J_spec_l04Keepx1 v2 f0 s)
 else some (.go v1))
@[simp] noncomputable def J_spec_l04Keepx0 (v12 : List Yt10) : Option Yt8 :=
 some v12
theorem U_spec_l04Keep (a0 : SNode) (a1 : List Yt10) : Le (joinK (loopF (fun f s => L_spec_l04Keepx0 a0 a1 f s.1 s.2) ([], 0))
 (fun s => J_spec_l04Keepx0 s)) (F_spec_l04Keep a0 a1) := callL_le (tt := tt) (FT := FT) (SP := SP) (j := 35) rfl (by kernel_rfl)
noncomputable def L_spec_l04Joinx2 (a2 : List Yt10) (v4 : Int) (f2 : (Yt10 × Int) → Option (Ex (Ex Yt26 Yt8) Yt10)) (v12 : List Int) (v13 : Int) : Option (Ex (Ex Yt26 Yt8) Yt10) :=
 (ix a2 v4).bind (fun z14 => (bif (decide (v13 < (z14.length : Int))) then
 (ix a2 v4).bind (fun z15 => (ix z15 v13).bind (fun z16 => (apx v12 ([z16])).bind (fun z17 => f2 (z17, (IntKind.i64.wrap (v13 + 1))))))
 else some (.go v12)))
@[simp] noncomputable def J_spec_l04Joinx4 (v3 : List Yt10) (v18 : List Int) : Option (Ex Yt26 Yt8) :=
 (apx v3 ([v18])).bind (fun z19 => some (.go z19))
@[simp] noncomputable def J_spec_l04Joinx3 (a1 : List Yt10) (a2 : List Yt10) (v2 : Int) (v3 : List Yt10) (v4 : Int) (v9 : Bool) : Option (Ex Yt26 Yt8) :=
 (bif v9 then
 some (.go v3)
 else (ix a1 v2).bind (fun z10 => (F_spec_l01Copy z10).bind (fun y11 => joinK (loopF (fun f s => L_spec_l04Joinx2 a2 v4 f s.1 s.2) (y11, 0))
 (fun s => J_spec_l04Joinx4 v3 s))))
@[simp] noncomputable def J_spec_l04Joinx2 (v4 : Int) (f1 : Yt14 → Option Yt26) (v20 : List Yt10) : Option Yt26 :=
 f1 (v20, (IntKind.i64.wrap (v4 + 1)))
noncomputable def L_spec_l04Joinx1 (a0 : SNode) (a1 : List Yt10) (a2 : List Yt10) (v2 : Int) (f1 : Yt14 → Option Yt26) (v3 : List Yt10) (v4 : Int) : Option Yt26 :=
 (bif (decide (v4 < (a2.length : Int))) then
 joinK ((ix a1 v2).bind (fun z5 => (ix z5 a0.2.2.1).bind (fun z6 => joinK ((bif (z6 == (-2000000)) then
 some (.go true)
 else (ix a2 v4).bind (fun z7 => (ix z7 a0.2.2.2.2.1).bind (fun z8 => some (.go (z6 != z8))))))
 (fun s => J_spec_l04Joinx3 a1 a2 v2 v3 v4 s))))
 (fun s => J_spec_l04Joinx2 v4 f1 s)
 else some (.go v3))
@[simp] noncomputable def J_spec_l04Joinx1 (v2 : Int) (f0 : Yt14 → Option Yt18) (v21 : List Yt10) : Option Yt18 :=
 f0 (v21, (IntKind.i64.wrap (v2 + 1)))
noncomputable def L_spec_l04Joinx0 (a0 : SNode) (a1 : List Yt10) (a2 : List Yt10) (f0 : Yt14 → Option Yt18) (v1 : List Yt10) (v2 : Int) : Option Yt18 :=
 (bif (decide (v2 < (a1.length : Int))) then
 joinK (loopF (fun f s => L_spec_l04Joinx1 a0 a1 a2 v2 f s.1 s.2) (v1, 0))
 (fun s => J_spec_l04Joinx1 v2 f0 s)
 else some (.go v1))
@[simp] noncomputable def J_spec_l04Joinx0 (v22 : List Yt10) : Option Yt8 :=
 some v22
theorem U_spec_l04Join (a0 : SNode) (a1 : List Yt10) (a2 : List Yt10) : Le (joinK (loopF (fun f s => L_spec_l04Joinx0 a0 a1 a2 f s.1 s.2) ([], 0))
 (fun s => J_spec_l04Joinx0 s)) (F_spec_l04Join a0 a1 a2) := callL_le (tt := tt) (FT := FT) (SP := SP) (j := 36) rfl (by kernel_rfl)
noncomputable def L_spec_l01Copyx0 (a0 : List Int) (f0 : (Yt10 × Int) → Option (Ex Yt10 Yt10)) (v1 : List Int) (v2 : Int) : Option (Ex Yt10 Yt10) :=
 (bif (decide (v2 < (a0.length : Int))) then
 (ix a0 v2).bind (fun z3 => (apx v1 ([z3])).bind (fun z4 => f0 (z4, (IntKind.i64.wrap (v2 + 1)))))
 else some (.go v1))
@[simp] noncomputable def J_spec_l01Copyx0 (v5 : List Int) : Option Yt10 :=
 some v5
theorem U_spec_l01Copy (a0 : List Int) : Le (joinK (loopF (fun f s => L_spec_l01Copyx0 a0 f s.1 s.2) ([], 0))
 (fun s => J_spec_l01Copyx0 s)) (F_spec_l01Copy a0) := callL_le (tt := tt) (FT := FT) (SP := SP) (j := 37) rfl (by kernel_rfl)
@[simp] noncomputable def J_spec_l04Sortx4 (a1 : List Yt10) (v2 : Int) (v3 : List Yt10) (v4 : Bool) (v11 : Bool) : Option (Ex (Ex Yt26 Yt15) Yt15) :=
 (bif v11 then
 (ix a1 v2).bind (fun z12 => (apx v3 ([z12])).bind (fun z13 => some (.go (z13, true))))
 else some (.go (v3, v4)))
@[simp] noncomputable def J_spec_l04Sortx3 (v1 : List Yt10) (v5 : Int) (f1 : (Yt8 × Bool × Int) → Option (Ex Yt26 Yt15)) (v14 : List Yt10) (v15 : Bool) : Option (Ex Yt26 Yt15) :=
 (ix v1 v5).bind (fun z16 => (ix v1 v5).bind (fun z17 => (apx v14 ([z17])).bind (fun z18 => f1 (z18, v15, (IntKind.i64.wrap (v5 + 1))))))
noncomputable def L_spec_l04Sortx1 (a0 : SNode) (a1 : List Yt10) (v1 : List Yt10) (v2 : Int) (f1 : (Yt8 × Bool × Int) → Option (Ex Yt26 Yt15)) (v3 : List Yt10) (v4 : Bool) (v5 : Int) : Option (Ex Yt26 Yt15) :=
 (bif (decide (v5 < (v1.length : Int))) then
 joinK (joinK ((bif (!v4) then
 (ix a1 v2).bind (fun z6 => (ix z6 a0.2.2.1).bind (fun z7 => (ix v1 v5).bind (fun z8 => (ix v1 v5).bind (fun z9 => (ix z9 a0.2.2.1).bind (fun z10 => some (.go (decide (z7 < z10))))))))
 else some (.go false)))
 (fun s => J_spec_l04Sortx4 a1 v2 v3 v4 s))
 (fun s => J_spec_l04Sortx3 v1 v5 f1 s.1 s.2)
 else some (.go (v3, v4)))
@[simp] noncomputable def J_spec_l04Sortx5 (v23 : List Yt10) : Option Yt26 :=
 some (.go v23)
@[simp] noncomputable def J_spec_l04Sortx2 (a1 : List Yt10) (v2 : Int) (v19 : List Yt10) (v20 : Bool) : Option Yt26 :=
 joinK ((bif (!v20) then
 (ix a1 v2).bind (fun z21 => (apx v19 ([z21])).bind (fun z22 => some (.go z22)))
 else some (.go v19)))
 (fun s => J_spec_l04Sortx5 s)
@[simp] noncomputable def J_spec_l04Sortx1 (v2 : Int) (f0 : Yt14 → Option Yt18) (v24 : List Yt10) : Option Yt18 :=
 f0 (v24, (IntKind.i64.wrap (v2 + 1)))
noncomputable def L_spec_l04Sortx0 (a0 : SNode) (a1 : List Yt10) (f0 : Yt14 → Option Yt18) (v1 : List Yt10) (v2 : Int) : Option Yt18 :=
 (bif (decide (v2 < (a1.length : Int))) then
 joinK (joinK (loopF (fun f s => L_spec_l04Sortx1 a0 a1 v1 v2 f s.1 s.2.1 s.2.2) ([], false, 0))
 (fun s => J_spec_l04Sortx2 a1 v2 s.1 s.2))
 (fun s => J_spec_l04Sortx1 v2 f0 s)
 else some (.go v1))
@[simp] noncomputable def J_spec_l04Sortx0 (v25 : List Yt10) : Option Yt8 :=
 some v25
theorem U_spec_l04Sort (a0 : SNode) (a1 : List Yt10) : Le (joinK (loopF (fun f s => L_spec_l04Sortx0 a0 a1 f s.1 s.2) ([], 0))
 (fun s => J_spec_l04Sortx0 s)) (F_spec_l04Sort a0 a1) := callL_le (tt := tt) (FT := FT) (SP := SP) (j := 38) rfl (by kernel_rfl)
@[simp] noncomputable def J_spec_l04Oncex1 (v2 : Int) (f0 : Yt14 → Option Yt18) (v7 : List Yt10) : Option Yt18 :=
 f0 (v7, (IntKind.i64.wrap (v2 + 1)))
noncomputable def L_spec_l04Oncex0 (a0 : List Yt10) (f0 : Yt14 → Option Yt18) (v1 : List Yt10) (v2 : Int) : Option Yt18 :=
 (bif (decide (v2 < (a0.length : Int))) then
 joinK ((ix a0 v2).bind (fun z3 => (F_spec_CountSame v1 z3).bind (fun y4 => (bif (y4 == 0) then
 (ix a0 v2).bind (fun z5 => (apx v1 ([z5])).bind (fun z6 => some (.go z6)))
 else some (.go v1)))))
 (fun s => J_spec_l04Oncex1 v2 f0 s)
 else some (.go v1))
@[simp] noncomputable def J_spec_l04Oncex0 (v8 : List Yt10) : Option Yt8 :=
 some v8
theorem U_spec_l04Once (a0 : List Yt10) : Le (joinK (loopF (fun f s => L_spec_l04Oncex0 a0 f s.1 s.2) ([], 0))
 (fun s => J_spec_l04Oncex0 s)) (F_spec_l04Once a0) := callL_le (tt := tt) (FT := FT) (SP := SP) (j := 39) rfl (by kernel_rfl)
@[simp] noncomputable def J_spec_CountSamex1 (v2 : Int) (f0 : Yt19 → Option Yt21) (v5 : Int) : Option Yt21 :=
 f0 (v5, (IntKind.i64.wrap (v2 + 1)))
noncomputable def L_spec_CountSamex0 (a0 : List Yt10) (a1 : List Int) (f0 : Yt19 → Option Yt21) (v1 : Int) (v2 : Int) : Option Yt21 :=
 (bif (decide (v2 < (a0.length : Int))) then
 joinK ((ix a0 v2).bind (fun z3 => (F_spec_l02SameInts z3 a1).bind (fun y4 => (bif y4 then
 some (.go (IntKind.i64.wrap (v1 + 1)))
 else some (.go v1)))))
 (fun s => J_spec_CountSamex1 v2 f0 s)
 else some (.go v1))
@[simp] noncomputable def J_spec_CountSamex0 (v6 : Int) : Option Int :=
 some v6
theorem U_spec_CountSame (a0 : List Yt10) (a1 : List Int) : Le (joinK (loopF (fun f s => L_spec_CountSamex0 a0 a1 f s.1 s.2) (0, 0))
 (fun s => J_spec_CountSamex0 s)) (F_spec_CountSame a0 a1) := callL_le (tt := tt) (FT := FT) (SP := SP) (j := 40) rfl (by kernel_rfl)
noncomputable def L_spec_l02SameIntsx0 (a0 : List Int) (a1 : List Int) (f0 : Yt20 → Option Yt13) (v1 : Bool) (v2 : Int) : Option Yt13 :=
 (bif (decide (v2 < (a0.length : Int))) then
 (ix a0 v2).bind (fun z3 => (ix a1 v2).bind (fun z4 => (bif (z3 != z4) then
 some (.ret false)
 else f0 (v1, (IntKind.i64.wrap (v2 + 1))))))
 else some (.go v1))
@[simp] noncomputable def J_spec_l02SameIntsx0 (v5 : Bool) : Option Bool :=
 some true
theorem U_spec_l02SameInts (a0 : List Int) (a1 : List Int) : Le ((bif ((a0.length : Int) != (a1.length : Int)) then
 some false
 else joinK (loopF (fun f s => L_spec_l02SameIntsx0 a0 a1 f s.1 s.2) (false, 0))
 (fun s => J_spec_l02SameIntsx0 s))) (F_spec_l02SameInts a0 a1) := callL_le (tt := tt) (FT := FT) (SP := SP) (j := 41) rfl (by kernel_rfl)
noncomputable def L_spec_l04Copyx0 (a0 : List Yt10) (f0 : Yt14 → Option Yt18) (v1 : List Yt10) (v2 : Int) : Option Yt18 :=
 (bif (decide (v2 < (a0.length : Int))) then
 (ix a0 v2).bind (fun z3 => (F_spec_l01Copy z3).bind (fun y4 => (apx v1 ([y4])).bind (fun z5 => f0 (z5, (IntKind.i64.wrap (v2 + 1))))))
 else some (.go v1))
@[simp] noncomputable def J_spec_l04Copyx0 (v6 : List Yt10) : Option Yt8 :=
 some v6
theorem U_spec_l04Copy (a0 : List Yt10) : Le (joinK (loopF (fun f s => L_spec_l04Copyx0 a0 f s.1 s.2) ([], 0))
 (fun s => J_spec_l04Copyx0 s)) (F_spec_l04Copy a0) := callL_le (tt := tt) (FT := FT) (SP := SP) (j := 42) rfl (by kernel_rfl)
@[simp] noncomputable def J_spec_RowTextx2 (a0 : List Int) (v2 : Int) (v4 : ByteArray) : Option (Ex Yt24 ByteArray) :=
 (ix a0 v2).bind (fun z5 => (bif (z5 == (-2000000)) then
 (addx v4 (⟨#[45]⟩ : ByteArray)).bind (fun z6 => some (.go z6))
 else (ix a0 v2).bind (fun z7 => (F_spec_l01Num z7).bind (fun y8 => (addx v4 y8).bind (fun z9 => some (.go z9))))))
@[simp] noncomputable def J_spec_RowTextx1 (v2 : Int) (f0 : (ByteArray × Int) → Option Yt24) (v10 : ByteArray) : Option Yt24 :=
 f0 (v10, (IntKind.i64.wrap (v2 + 1)))
noncomputable def L_spec_RowTextx0 (a0 : List Int) (f0 : (ByteArray × Int) → Option Yt24) (v1 : ByteArray) (v2 : Int) : Option Yt24 :=
 (bif (decide (v2 < (a0.length : Int))) then
 joinK (joinK ((bif (decide (v2 > 0)) then
 (addx v1 (⟨#[44]⟩ : ByteArray)).bind (fun z3 => some (.go z3))
 else some (.go v1)))
 (fun s => J_spec_RowTextx2 a0 v2 s))
 (fun s => J_spec_RowTextx1 v2 f0 s)
 else some (.go v1))
@[simp] noncomputable def J_spec_RowTextx0 (v11 : ByteArray) : Option ByteArray :=
 some v11
theorem U_spec_RowText (a0 : List Int) : Le ((bif ((a0.length : Int) == 0) then
 some (⟨#[40, 41]⟩ : ByteArray)
 else joinK (loopF (fun f s => L_spec_RowTextx0 a0 f s.1 s.2) (ByteArray.empty, 0))
 (fun s => J_spec_RowTextx0 s))) (F_spec_RowText a0) := callL_le (tt := tt) (FT := FT) (SP := SP) (j := 43) rfl (by kernel_rfl)
@[simp] noncomputable def J_spec_l01Numx1 (v1 : Int) (v2 : ByteArray) (f0 : Yt32 → Option Yt24) (v4 : Int) : Option Yt24 :=
 (addx (bsOf ([(IntKind.u8.wrap (IntKind.i64.wrap (48 + v4)))])) v2).bind (fun z5 => (quox v1 10).bind (fun z6 => f0 (z6, z5)))
noncomputable def L_spec_l01Numx0 (f0 : Yt32 → Option Yt24) (v1 : Int) (v2 : ByteArray) : Option Yt24 :=
 (bif (v1 != 0) then
 (remx v1 10).bind (fun z3 => joinK ((bif (decide (z3 < 0)) then
 some (.go (IntKind.i64.wrap (0 - z3)))
 else some (.go z3)))
 (fun s => J_spec_l01Numx1 v1 v2 f0 s))
 else some (.go v2))
@[simp] noncomputable def J_spec_l01Numx0 (a0 : Int) (v7 : ByteArray) : Option ByteArray :=
 (bif (decide (a0 < 0)) then
 (addx (⟨#[45]⟩ : ByteArray) v7).bind (fun z8 => some z8)
 else some v7)
theorem U_spec_l01Num (a0 : Int) : Le ((bif (a0 == 0) then
 some (⟨#[48]⟩ : ByteArray)
 else joinK (loopF (fun f s => L_spec_l01Numx0 f s.1 s.2) (a0, ByteArray.empty))
 (fun s => J_spec_l01Numx0 a0 s))) (F_spec_l01Num a0) := callL_le (tt := tt) (FT := FT) (SP := SP) (j := 44) rfl (by kernel_rfl)
theorem U_impl_FirstRow (a0 : List STable) (a1 : List SNode) (a2 : Int) : Le ((F_impl_StoreFrom a0 a2).bind (fun y1 => (F_impl_EvalPlan a0 y1 a1).bind (fun y2 => (bif ((y2.1.length : Int) == 0) then
 some ByteArray.empty
 else (ix y2.1 0).bind (fun z3 => (F_impl_RowText z3).bind (fun y4 => some y4)))))) (F_impl_FirstRow a0 a1 a2) := callL_le (tt := tt) (FT := FT) (SP := SP) (j := 45) rfl (by kernel_rfl)
@[simp] noncomputable def J_impl_StoreFromx6 (v13 : List Int) (v15 : Int) (y16 : Yt19) (f2 : (Yt10 × Int × Int) → Option Yt29) (v18 : Int) : Option Yt29 :=
 (apx v13 ([v18])).bind (fun z19 => f2 (z19, y16.2, (IntKind.i64.wrap (v15 + 1))))
noncomputable def L_impl_StoreFromx2 (z7 : STable) (f2 : (Yt10 × Int × Int) → Option Yt29) (v13 : List Int) (v14 : Int) (v15 : Int) : Option Yt29 :=
 (bif (decide (v15 < z7.2.1)) then
 (F_impl_stream_next v14).bind (fun y16 => (remx y16.1 6).bind (fun z17 => joinK ((bif (z17 == 5) then
 some (.go (-2000000))
 else some (.go z17)))
 (fun s => J_impl_StoreFromx6 v13 v15 y16 f2 s)))
 else some (.go (v13, v14)))
@[simp] noncomputable def J_impl_StoreFromx5 (v10 : List Yt10) (v20 : List Int) (v21 : Int) : Option (Ex (Ex Yt11 Yt14) Yt14) :=
 (apx v10 ([v20])).bind (fun z22 => some (.go (z22, v21)))
@[simp] noncomputable def J_impl_StoreFromx4 (v12 : Int) (f1 : (Yt8 × Int × Int) → Option (Ex Yt11 Yt14)) (v23 : List Yt10) (v24 : Int) : Option (Ex Yt11 Yt14) :=
 f1 (v23, v24, (IntKind.i64.wrap (v12 + 1)))
noncomputable def L_impl_StoreFromx1 (z7 : STable) (z9 : Int) (f1 : (Yt8 × Int × Int) → Option (Ex Yt11 Yt14)) (v10 : List Yt10) (v11 : Int) (v12 : Int) : Option (Ex Yt11 Yt14) :=
 (bif (decide (v12 < z9)) then
 joinK (joinK (loopF (fun f s => L_impl_StoreFromx2 z7 f s.1 s.2.1 s.2.2) ([], v11, 0))
 (fun s => J_impl_StoreFromx5 v10 s.1 s.2))
 (fun s => J_impl_StoreFromx4 v12 f1 s.1 s.2)
 else some (.go (v10, v11)))
@[simp] noncomputable def J_impl_StoreFromx3 (v4 : List Yt8) (v25 : List Yt10) (v26 : Int) : Option Yt11 :=
 (apx v4 ([v25])).bind (fun z27 => some (.go (z27, v26)))
@[simp] noncomputable def J_impl_StoreFromx2 (v6 : Int) (f0 : (Yt23 × Int × Int) → Option (Ex Yt23 Yt23)) (v28 : List Yt8) (v29 : Int) : Option (Ex Yt23 Yt23) :=
 f0 (v28, v29, (IntKind.i64.wrap (v6 + 1)))
noncomputable def L_impl_StoreFromx0 (a0 : List STable) (f0 : (Yt23 × Int × Int) → Option (Ex Yt23 Yt23)) (v4 : List Yt8) (v5 : Int) (v6 : Int) : Option (Ex Yt23 Yt23) :=
 (bif (decide (v6 < (a0.length : Int))) then
 joinK ((ix a0 v6).bind (fun z7 => joinK ((F_impl_stream_next v5).bind (fun y8 => (remx y8.1 5).bind (fun z9 => loopF (fun f s => L_impl_StoreFromx1 z7 z9 f s.1 s.2.1 s.2.2) ([], y8.2, 0))))
 (fun s => J_impl_StoreFromx3 v4 s.1 s.2)))
 (fun s => J_impl_StoreFromx2 v6 f0 s.1 s.2)
 else some (.go v4))
@[simp] noncomputable def J_impl_StoreFromx1 (v30 : List Yt8) : Option Yt23 :=
 some v30
@[simp] noncomputable def J_impl_StoreFromx0 (a0 : List STable) (a1 : Int) (v3 : Bool) : Option Yt23 :=
 (bif v3 then
 some ([])
 else joinK (loopF (fun f s => L_impl_StoreFromx0 a0 f s.1 s.2.1 s.2.2) ([], a1, 0))
 (fun s => J_impl_StoreFromx1 s))
theorem U_impl_StoreFrom (a0 : List STable) (a1 : Int) : Le (joinK ((F_impl_SchemaOk a0).bind (fun y1 => (bif (!y1) then
 some (.go true)
 else (F_impl_in a1 0 65536).bind (fun y2 => some (.go (!y2))))))
 (fun s => J_impl_StoreFromx0 a0 a1 s)) (F_impl_StoreFrom a0 a1) := callL_le (tt := tt) (FT := FT) (SP := SP) (j := 46) rfl (by kernel_rfl)
@[simp] noncomputable def J_impl_SchemaOkx1 (v1 : Bool) (v2 : Int) (f0 : Yt20 → Option Yt13) (v7 : Bool) : Option Yt13 :=
 (bif v7 then
 some (.ret false)
 else f0 (v1, (IntKind.i64.wrap (v2 + 1))))
noncomputable def L_impl_SchemaOkx0 (a0 : List STable) (f0 : Yt20 → Option Yt13) (v1 : Bool) (v2 : Int) : Option Yt13 :=
 (bif (decide (v2 < (a0.length : Int))) then
 (ix a0 v2).bind (fun z3 => joinK ((F_impl_WordOk z3.1).bind (fun y4 => (bif (!y4) then
 some (.go true)
 else (F_impl_in z3.2.1 1 6).bind (fun y5 => (bif (!y5) then
 some (.go true)
 else (bif (decide (v2 > 0)) then
 (ix a0 (IntKind.i64.wrap (v2 - 1))).bind (fun z6 => some (.go (!(Op.bytesLess z6.1.toList z3.1.toList))))
 else some (.go false)))))))
 (fun s => J_impl_SchemaOkx1 v1 v2 f0 s))
 else some (.go v1))
@[simp] noncomputable def J_impl_SchemaOkx0 (a0 : List STable) (v8 : Bool) : Option Bool :=
 some (decide ((a0.length : Int) ≤ 8))
theorem U_impl_SchemaOk (a0 : List STable) : Le (joinK (loopF (fun f s => L_impl_SchemaOkx0 a0 f s.1 s.2) (false, 0))
 (fun s => J_impl_SchemaOkx0 a0 s)) (F_impl_SchemaOk a0) := callL_le (tt := tt) (FT := FT) (SP := SP) (j := 47) rfl (by kernel_rfl)
@[simp] noncomputable def J_impl_WordOkx2 (v1 : Bool) (v2 : Int) (f0 : Yt20 → Option Yt13) (v5 : Bool) : Option Yt13 :=
 (bif v5 then
 some (.ret false)
 else f0 (v1, (IntKind.i64.wrap (v2 + 1))))
@[simp] noncomputable def J_impl_WordOkx1 (v1 : Bool) (v2 : Int) (z3 : Int) (f0 : Yt20 → Option Yt13) (v4 : Bool) : Option Yt13 :=
 joinK ((bif (!v4) then
 (bif (v2 == 0) then
 some (.go true)
 else (bif (decide (z3 < 48)) then
 some (.go true)
 else some (.go (decide (z3 > 57)))))
 else some (.go false)))
 (fun s => J_impl_WordOkx2 v1 v2 f0 s)
noncomputable def L_impl_WordOkx0 (a0 : ByteArray) (f0 : Yt20 → Option Yt13) (v1 : Bool) (v2 : Int) : Option Yt13 :=
 (bif (decide (v2 < (a0.size : Int))) then
 (bix a0 v2).bind (fun z3 => joinK ((bif (decide (z3 ≥ 97)) then
 some (.go (decide (z3 ≤ 122)))
 else some (.go false)))
 (fun s => J_impl_WordOkx1 v1 v2 z3 f0 s))
 else some (.go v1))
@[simp] noncomputable def J_impl_WordOkx0 (a0 : ByteArray) (v6 : Bool) : Option Bool :=
 (F_impl_in (a0.size : Int) 1 12).bind (fun y7 => some y7)
theorem U_impl_WordOk (a0 : ByteArray) : Le (joinK (loopF (fun f s => L_impl_WordOkx0 a0 f s.1 s.2) (false, 0))
 (fun s => J_impl_WordOkx0 a0 s)) (F_impl_WordOk a0) := callL_le (tt := tt) (FT := FT) (SP := SP) (j := 48) rfl (by kernel_rfl)
@[simp] noncomputable def J_impl_inx0 (v1 : Bool) : Option Bool :=
 some v1
theorem U_impl_in (a0 : Int) (a1 : Int) (a2 : Int) : Le (joinK ((bif (decide (a0 ≥ a1)) then
 some (.go (decide (a0 ≤ a2)))
 else some (.go false)))
 (fun s => J_impl_inx0 s)) (F_impl_in a0 a1 a2) := callL_le (tt := tt) (FT := FT) (SP := SP) (j := 49) rfl (by kernel_rfl)
theorem U_impl_stream_next (a0x0 : Int) : Le ((remx (IntKind.i64.wrap ((IntKind.i64.wrap (75 * a0x0)) + 74)) 65537).bind (fun z1 => some (z1, z1))) (F_impl_stream_next a0x0) := callL_le (tt := tt) (FT := FT) (SP := SP) (j := 50) rfl (by kernel_rfl)
@[simp] noncomputable def J_impl_EvalPlanx0 (a0 : List STable) (a1 : List Yt8) (a2 : List SNode) (v4 : Bool) : Option Yt14 :=
 (bif v4 then
 some ([], 1)
 else (F_impl_eval a0 a1 a2 0).bind (fun y5 => (bif (!y5.2) then
 some ([], 2)
 else (F_impl_ownRows y5.1).bind (fun y6 => some (y6, 0)))))
theorem U_impl_EvalPlan (a0 : List STable) (a1 : List Yt8) (a2 : List SNode) : Le (joinK ((F_impl_StoreOk a0 a1).bind (fun y1 => (bif (!y1) then
 some (.go true)
 else (F_impl_TypedOk a0 a2).bind (fun y2 => (bif (!y2) then
 some (.go true)
 else (F_impl_hasSlot a2).bind (fun y3 => some (.go y3)))))))
 (fun s => J_impl_EvalPlanx0 a0 a1 a2 s)) (F_impl_EvalPlan a0 a1 a2) := callL_le (tt := tt) (FT := FT) (SP := SP) (j := 51) rfl (by kernel_rfl)
@[simp] noncomputable def J_impl_StoreOkx3 (v6 : Bool) (v7 : Int) (f1 : Yt20 → Option Yt30) (v11 : Bool) : Option Yt30 :=
 (bif v11 then
 some (.ret (.ret false))
 else f1 (v6, (IntKind.i64.wrap (v7 + 1))))
noncomputable def L_impl_StoreOkx1 (a0 : List STable) (v4 : Int) (z5 : List Yt10) (f1 : Yt20 → Option Yt30) (v6 : Bool) (v7 : Int) : Option Yt30 :=
 (bif (decide (v7 < (z5.length : Int))) then
 (ix z5 v7).bind (fun z8 => joinK ((ix a0 v4).bind (fun z9 => (bif ((z8.length : Int) != z9.2.1) then
 some (.go true)
 else (F_slices_ContainsFunc_Lint_impl_StoreOk_1 z8).bind (fun y10 => some (.go y10)))))
 (fun s => J_impl_StoreOkx3 v6 v7 f1 s))
 else some (.go v6))
@[simp] noncomputable def J_impl_StoreOkx2 (v4 : Int) (f0 : Yt20 → Option Yt13) (v12 : Bool) : Option Yt13 :=
 f0 (v12, (IntKind.i64.wrap (v4 + 1)))
noncomputable def L_impl_StoreOkx0 (a0 : List STable) (a1 : List Yt8) (f0 : Yt20 → Option Yt13) (v3 : Bool) (v4 : Int) : Option Yt13 :=
 (bif (decide (v4 < (a1.length : Int))) then
 joinK ((ix a1 v4).bind (fun z5 => (bif (decide ((z5.length : Int) > 40)) then
 some (.ret (.ret false))
 else loopF (fun f s => L_impl_StoreOkx1 a0 v4 z5 f s.1 s.2) (v3, 0))))
 (fun s => J_impl_StoreOkx2 v4 f0 s)
 else some (.go v3))
@[simp] noncomputable def J_impl_StoreOkx1 (v13 : Bool) : Option Bool :=
 some true
@[simp] noncomputable def J_impl_StoreOkx0 (a0 : List STable) (a1 : List Yt8) (v2 : Bool) : Option Bool :=
 (bif v2 then
 some false
 else joinK (loopF (fun f s => L_impl_StoreOkx0 a0 a1 f s.1 s.2) (false, 0))
 (fun s => J_impl_StoreOkx1 s))
theorem U_impl_StoreOk (a0 : List STable) (a1 : List Yt8) : Le (joinK ((F_impl_SchemaOk a0).bind (fun y1 => (bif (!y1) then
 some (.go true)
 else some (.go ((a1.length : Int) != (a0.length : Int))))))
 (fun s => J_impl_StoreOkx0 a0 a1 s)) (F_impl_StoreOk a0 a1) := callL_le (tt := tt) (FT := FT) (SP := SP) (j := 52) rfl (by kernel_rfl)
theorem U_slices_ContainsFunc_Lint_impl_StoreOk_1 (a0 : List Int) : Le ((F_slices_IndexFunc_Lint_impl_StoreOk_1 a0).bind (fun y1 => some (decide (y1 ≥ 0)))) (F_slices_ContainsFunc_Lint_impl_StoreOk_1 a0) := callL_le (tt := tt) (FT := FT) (SP := SP) (j := 53) rfl (by kernel_rfl)
noncomputable def L_slices_IndexFunc_Lint_impl_StoreOk_1x0 (a0 : List Int) (f0 : Yt19 → Option Yt21) (v1 : Int) (v2 : Int) : Option Yt21 :=
 (bif (decide (v2 < (a0.length : Int))) then
 (ix a0 v2).bind (fun z3 => (F_impl_StoreOk_1 z3).bind (fun y4 => (bif y4 then
 some (.ret v2)
 else f0 (v1, (IntKind.i64.wrap (v2 + 1))))))
 else some (.go v1))
@[simp] noncomputable def J_slices_IndexFunc_Lint_impl_StoreOk_1x0 (v5 : Int) : Option Int :=
 some (-1)
theorem U_slices_IndexFunc_Lint_impl_StoreOk_1 (a0 : List Int) : Le (joinK (loopF (fun f s => L_slices_IndexFunc_Lint_impl_StoreOk_1x0 a0 f s.1 s.2) (0, 0))
 (fun s => J_slices_IndexFunc_Lint_impl_StoreOk_1x0 s)) (F_slices_IndexFunc_Lint_impl_StoreOk_1 a0) := callL_le (tt := tt) (FT := FT) (SP := SP) (j := 54) rfl (by kernel_rfl)
theorem U_impl_StoreOk_1 (a0 : Int) : Le ((F_impl_isValue a0).bind (fun y1 => some (!y1))) (F_impl_StoreOk_1 a0) := callL_le (tt := tt) (FT := FT) (SP := SP) (j := 55) rfl (by kernel_rfl)
@[simp] noncomputable def J_impl_isValuex0 (v2 : Bool) : Option Bool :=
 some v2
theorem U_impl_isValue (a0 : Int) : Le (joinK ((F_impl_isNum a0).bind (fun y1 => (bif y1 then
 some (.go true)
 else some (.go (a0 == (-2000000))))))
 (fun s => J_impl_isValuex0 s)) (F_impl_isValue a0) := callL_le (tt := tt) (FT := FT) (SP := SP) (j := 56) rfl (by kernel_rfl)
theorem U_impl_isNum (a0 : Int) : Le ((F_impl_in a0 (-1000000) 1000000).bind (fun y1 => some y1)) (F_impl_isNum a0) := callL_le (tt := tt) (FT := FT) (SP := SP) (j := 57) rfl (by kernel_rfl)
theorem U_impl_TypedOk (a0 : List STable) (a1 : List SNode) : Le ((F_impl_WidthOf a0 a1).bind (fun y1 => some (decide (y1 ≥ 0)))) (F_impl_TypedOk a0 a1) := callL_le (tt := tt) (FT := FT) (SP := SP) (j := 58) rfl (by kernel_rfl)
@[simp] noncomputable def J_impl_WidthOfx0 (a0 : List STable) (a1 : List SNode) (v3 : Bool) : Option Int :=
 (bif v3 then
 some (-1)
 else (F_impl_width a0 a1 0).bind (fun y4 => some y4))
theorem U_impl_WidthOf (a0 : List STable) (a1 : List SNode) : Le (joinK ((F_impl_SchemaOk a0).bind (fun y1 => (bif (!y1) then
 some (.go true)
 else (F_impl_PlanOk a1).bind (fun y2 => some (.go (!y2))))))
 (fun s => J_impl_WidthOfx0 a0 a1 s)) (F_impl_WidthOf a0 a1) := callL_le (tt := tt) (FT := FT) (SP := SP) (j := 59) rfl (by kernel_rfl)
@[simp] noncomputable def J_impl_PlanOkx0 (a0 : List SNode) (v3 : Bool) : Option Bool :=
 (bif v3 then
 some false
 else (F_impl_end a0 0 1).bind (fun y4 => some (y4 == (a0.length : Int))))
theorem U_impl_PlanOk (a0 : List SNode) : Le (joinK ((F_impl_in (a0.length : Int) 1 40).bind (fun y1 => (bif (!y1) then
 some (.go true)
 else (F_slices_ContainsFunc_LimplNode_impl_PlanOk_1 a0).bind (fun y2 => some (.go y2)))))
 (fun s => J_impl_PlanOkx0 a0 s)) (F_impl_PlanOk a0) := callL_le (tt := tt) (FT := FT) (SP := SP) (j := 60) rfl (by kernel_rfl)
theorem U_slices_ContainsFunc_LimplNode_impl_PlanOk_1 (a0 : List SNode) : Le ((F_slices_IndexFunc_LimplNode_impl_PlanOk_1 a0).bind (fun y1 => some (decide (y1 ≥ 0)))) (F_slices_ContainsFunc_LimplNode_impl_PlanOk_1 a0) := callL_le (tt := tt) (FT := FT) (SP := SP) (j := 61) rfl (by kernel_rfl)
noncomputable def L_slices_IndexFunc_LimplNode_impl_PlanOk_1x0 (a0 : List SNode) (f0 : Yt19 → Option Yt21) (v1 : Int) (v2 : Int) : Option Yt21 :=
 (bif (decide (v2 < (a0.length : Int))) then
 (ix a0 v2).bind (fun z3 => (F_impl_PlanOk_1 z3).bind (fun y4 => (bif y4 then
 some (.ret v2)
 else f0 (v1, (IntKind.i64.wrap (v2 + 1))))))
 else some (.go v1))
@[simp] noncomputable def J_slices_IndexFunc_LimplNode_impl_PlanOk_1x0 (v5 : Int) : Option Int :=
 some (-1)
theorem U_slices_IndexFunc_LimplNode_impl_PlanOk_1 (a0 : List SNode) : Le (joinK (loopF (fun f s => L_slices_IndexFunc_LimplNode_impl_PlanOk_1x0 a0 f s.1 s.2) (0, 0))
 (fun s => J_slices_IndexFunc_LimplNode_impl_PlanOk_1x0 s)) (F_slices_IndexFunc_LimplNode_impl_PlanOk_1 a0) := callL_le (tt := tt) (FT := FT) (SP := SP) (j := 62) rfl (by kernel_rfl)
theorem U_impl_PlanOk_1 (a0 : SNode) : Le ((F_impl_NodeOk (a0.1, (a0.2.1, (a0.2.2.1, (a0.2.2.2.1, (a0.2.2.2.2.1, (a0.2.2.2.2.2.1, (a0.2.2.2.2.2.2.1, ())))))))).bind (fun y1 => some (!y1))) (F_impl_PlanOk_1 a0) := callL_le (tt := tt) (FT := FT) (SP := SP) (j := 63) rfl (by kernel_rfl)
@[simp] noncomputable def J_impl_NodeOkx2 (a0 : SNode) (v7 : Bool) : Option Yt17 :=
 some (.go (0, a0.2.1, 0, 0, 0, false, a0.2.2.2.2.2.2.1, v7))
@[simp] noncomputable def J_impl_NodeOkx1 (a0 : SNode) (v4 : Bool) : Option Yt17 :=
 joinK ((bif (a0.2.2.2.1 == 3) then
 (bif v4 then
 (bif (a0.2.2.2.2.1 == 0) then
 some (.go (!a0.2.2.2.2.2.1))
 else some (.go false))
 else some (.go false))
 else (bif a0.2.2.2.2.2.1 then
 (bif v4 then
 (F_impl_isSlot a0.2.2.2.2.1).bind (fun y5 => some (.go y5))
 else some (.go false))
 else (bif v4 then
 (F_impl_isNum a0.2.2.2.2.1).bind (fun y6 => some (.go y6))
 else some (.go false)))))
 (fun s => J_impl_NodeOkx2 a0 s)
@[simp] noncomputable def J_impl_NodeOkx3 (a0 : SNode) (v10 : Bool) : Option Yt17 :=
 some (.go (0, a0.2.1, a0.2.2.1, a0.2.2.2.1, a0.2.2.2.2.1, a0.2.2.2.2.2.1, [], v10))
@[simp] noncomputable def J_impl_NodeOkx4 (a0 : SNode) (v13 : Bool) : Option Yt17 :=
 some (.go (0, a0.2.1, 0, a0.2.2.2.1, 0, a0.2.2.2.2.2.1, a0.2.2.2.2.2.2.1, v13))
@[simp] noncomputable def J_impl_NodeOkx5 (a0 : SNode) (v17 : Bool) : Option Yt17 :=
 some (.go (0, a0.2.1, a0.2.2.1, a0.2.2.2.1, 0, false, a0.2.2.2.2.2.2.1, v17))
@[simp] noncomputable def J_impl_NodeOkx6 (a0 : SNode) (v18 : Bool) : Option Yt17 :=
 (bif v18 then
 some (.go (0, a0.2.1, a0.2.2.1, a0.2.2.2.1, a0.2.2.2.2.1, a0.2.2.2.2.2.1, a0.2.2.2.2.2.2.1, true))
 else some (.go (0, a0.2.1, a0.2.2.1, a0.2.2.2.1, a0.2.2.2.2.1, a0.2.2.2.2.2.1, a0.2.2.2.2.2.2.1, false)))
@[simp] noncomputable def J_impl_NodeOkx7 (v28 : Bool) : Option Bool :=
 some v28
@[simp] noncomputable def J_impl_NodeOkx0 (v19 : Int) (v20 : ByteArray) (v21 : Int) (v22 : Int) (v23 : Int) (v24 : Bool) (v25 : List Int) (v26 : Bool) : Option Bool :=
 joinK ((bif v26 then
 (F_impl_sameNode (v19, (v20, (v21, (v22, (v23, (v24, (v25, ()))))))) (0, (ByteArray.empty, (0, (0, (0, (false, ([], ())))))))).bind (fun y27 => some (.go y27))
 else some (.go false)))
 (fun s => J_impl_NodeOkx7 s)
theorem U_impl_NodeOk (a0 : SNode) : Le (joinK ((bif (a0.1 == 0) then
 (F_impl_WordOk a0.2.1).bind (fun y1 => some (.go (0, ByteArray.empty, a0.2.2.1, a0.2.2.2.1, a0.2.2.2.2.1, a0.2.2.2.2.2.1, a0.2.2.2.2.2.2.1, y1)))
 else (bif (a0.1 == 1) then
 joinK ((F_impl_isCol a0.2.2.1).bind (fun y2 => (bif y2 then
 (F_impl_in a0.2.2.2.1 0 3).bind (fun y3 => some (.go y3))
 else some (.go false))))
 (fun s => J_impl_NodeOkx1 a0 s)
 else (bif (a0.1 == 2) then
 joinK ((F_impl_in (a0.2.2.2.2.2.2.1.length : Int) 1 6).bind (fun y8 => (bif y8 then
 (F_slices_ContainsFunc_Lint_impl_NodeOk_1 a0.2.2.2.2.2.2.1).bind (fun y9 => some (.go (!y9)))
 else some (.go false))))
 (fun s => J_impl_NodeOkx3 a0 s)
 else (bif (a0.1 == 3) then
 joinK ((F_impl_isCol a0.2.2.1).bind (fun y11 => (bif y11 then
 (F_impl_isCol a0.2.2.2.2.1).bind (fun y12 => some (.go y12))
 else some (.go false))))
 (fun s => J_impl_NodeOkx4 a0 s)
 else (bif (a0.1 == 5) then
 (F_impl_isCol a0.2.2.1).bind (fun y14 => some (.go (0, a0.2.1, 0, a0.2.2.2.1, a0.2.2.2.2.1, a0.2.2.2.2.2.1, a0.2.2.2.2.2.2.1, y14)))
 else (bif (a0.1 == 6) then
 joinK ((F_impl_in a0.2.2.2.2.1 0 1000000).bind (fun y15 => (bif y15 then
 (bif (!a0.2.2.2.2.2.1) then
 some (.go true)
 else (F_impl_isSlot a0.2.2.2.2.1).bind (fun y16 => some (.go y16)))
 else some (.go false))))
 (fun s => J_impl_NodeOkx5 a0 s)
 else joinK ((bif (a0.1 == 4) then
 some (.go true)
 else some (.go (a0.1 == 7))))
 (fun s => J_impl_NodeOkx6 a0 s))))))))
 (fun s => J_impl_NodeOkx0 s.1 s.2.1 s.2.2.1 s.2.2.2.1 s.2.2.2.2.1 s.2.2.2.2.2.1 s.2.2.2.2.2.2.1 s.2.2.2.2.2.2.2)) (F_impl_NodeOk a0) := callL_le (tt := tt) (FT := FT) (SP := SP) (j := 64) rfl (by kernel_rfl)
theorem U_impl_isCol (a0 : Int) : Le ((F_impl_in a0 0 63).bind (fun y1 => some y1)) (F_impl_isCol a0) := callL_le (tt := tt) (FT := FT) (SP := SP) (j := 65) rfl (by kernel_rfl)
theorem U_impl_isSlot (a0 : Int) : Le ((F_impl_in a0 0 39).bind (fun y1 => some y1)) (F_impl_isSlot a0) := callL_le (tt := tt) (FT := FT) (SP := SP) (j := 66) rfl (by kernel_rfl)
theorem U_slices_ContainsFunc_Lint_impl_NodeOk_1 (a0 : List Int) : Le ((F_slices_IndexFunc_Lint_impl_NodeOk_1 a0).bind (fun y1 => some (decide (y1 ≥ 0)))) (F_slices_ContainsFunc_Lint_impl_NodeOk_1 a0) := callL_le (tt := tt) (FT := FT) (SP := SP) (j := 67) rfl (by kernel_rfl)
noncomputable def L_slices_IndexFunc_Lint_impl_NodeOk_1x0 (a0 : List Int) (f0 : Yt19 → Option Yt21) (v1 : Int) (v2 : Int) : Option Yt21 :=
 (bif (decide (v2 < (a0.length : Int))) then
 (ix a0 v2).bind (fun z3 => (F_impl_NodeOk_1 z3).bind (fun y4 => (bif y4 then
 some (.ret v2)
 else f0 (v1, (IntKind.i64.wrap (v2 + 1))))))
 else some (.go v1))
@[simp] noncomputable def J_slices_IndexFunc_Lint_impl_NodeOk_1x0 (v5 : Int) : Option Int :=
 some (-1)
theorem U_slices_IndexFunc_Lint_impl_NodeOk_1 (a0 : List Int) : Le (joinK (loopF (fun f s => L_slices_IndexFunc_Lint_impl_NodeOk_1x0 a0 f s.1 s.2) (0, 0))
 (fun s => J_slices_IndexFunc_Lint_impl_NodeOk_1x0 s)) (F_slices_IndexFunc_Lint_impl_NodeOk_1 a0) := callL_le (tt := tt) (FT := FT) (SP := SP) (j := 68) rfl (by kernel_rfl)
theorem U_impl_NodeOk_1 (a0 : Int) : Le ((F_impl_isCol a0).bind (fun y1 => some (!y1))) (F_impl_NodeOk_1 a0) := callL_le (tt := tt) (FT := FT) (SP := SP) (j := 69) rfl (by kernel_rfl)
@[simp] noncomputable def J_impl_sameNodex0 (v2 : Bool) : Option Bool :=
 some v2
theorem U_impl_sameNode (a0 : SNode) (a1 : SNode) : Le (joinK ((bif (a0.1 == a1.1) then
 (bif (a0.2.1.toList == a1.2.1.toList) then
 (bif (a0.2.2.1 == a1.2.2.1) then
 (bif (a0.2.2.2.1 == a1.2.2.2.1) then
 (bif (a0.2.2.2.2.1 == a1.2.2.2.2.1) then
 (bif (a0.2.2.2.2.2.1 == a1.2.2.2.2.2.1) then
 (F_slices_Equal_Lint a0.2.2.2.2.2.2.1 a1.2.2.2.2.2.2.1).bind (fun y1 => some (.go y1))
 else some (.go false))
 else some (.go false))
 else some (.go false))
 else some (.go false))
 else some (.go false))
 else some (.go false)))
 (fun s => J_impl_sameNodex0 s)) (F_impl_sameNode a0 a1) := callL_le (tt := tt) (FT := FT) (SP := SP) (j := 70) rfl (by kernel_rfl)
noncomputable def L_slices_Equal_Lintx0 (a0 : List Int) (a1 : List Int) (f0 : Yt20 → Option Yt13) (v1 : Bool) (v2 : Int) : Option Yt13 :=
 (bif (decide (v2 < (a0.length : Int))) then
 (ix a0 v2).bind (fun z3 => (ix a1 v2).bind (fun z4 => (bif (z3 != z4) then
 some (.ret false)
 else f0 (v1, (IntKind.i64.wrap (v2 + 1))))))
 else some (.go v1))
@[simp] noncomputable def J_slices_Equal_Lintx0 (v5 : Bool) : Option Bool :=
 some true
theorem U_slices_Equal_Lint (a0 : List Int) (a1 : List Int) : Le ((bif ((a0.length : Int) != (a1.length : Int)) then
 some false
 else joinK (loopF (fun f s => L_slices_Equal_Lintx0 a0 a1 f s.1 s.2) (false, 0))
 (fun s => J_slices_Equal_Lintx0 s))) (F_slices_Equal_Lint a0 a1) := callL_le (tt := tt) (FT := FT) (SP := SP) (j := 71) rfl (by kernel_rfl)
noncomputable def L_impl_endx0 (a0 : List SNode) (a2 : Int) (y3 : Int) (f0 : (Int × Int × Int) → Option (Ex Int Yt19)) (v4 : Int) (v5 : Int) (v6 : Int) : Option (Ex Int Yt19) :=
 (bif (decide (v6 < y3)) then
 (F_impl_end a0 v5 (IntKind.i64.wrap (a2 + 1))).bind (fun y7 => (bif (decide (y7 < 0)) then
 some (.ret (-1))
 else f0 (v4, y7, (IntKind.i64.wrap (v6 + 1)))))
 else some (.go (v4, v5)))
@[simp] noncomputable def J_impl_endx1 (v8 : Int) (v9 : Int) : Option Int :=
 some v9
@[simp] noncomputable def J_impl_endx0 (a0 : List SNode) (a1 : Int) (a2 : Int) (v1 : Bool) : Option Int :=
 (bif v1 then
 some (-1)
 else joinK ((ix a0 a1).bind (fun z2 => (F_impl_ArityOf z2.1).bind (fun y3 => loopF (fun f s => L_impl_endx0 a0 a2 y3 f s.1 s.2.1 s.2.2) (0, (IntKind.i64.wrap (a1 + 1)), 0))))
 (fun s => J_impl_endx1 s.1 s.2))
theorem U_impl_end (a0 : List SNode) (a1 : Int) (a2 : Int) : Le (joinK ((bif (decide (a1 ≥ (a0.length : Int))) then
 some (.go true)
 else some (.go (decide (a2 > 10)))))
 (fun s => J_impl_endx0 a0 a1 a2 s)) (F_impl_end a0 a1 a2) := callL_le (tt := tt) (FT := FT) (SP := SP) (j := 72) rfl (by kernel_rfl)
@[simp] noncomputable def J_impl_ArityOfx1 (v2 : Bool) : Option Int :=
 (bif v2 then
 some 1
 else some (-1))
@[simp] noncomputable def J_impl_ArityOfx0 (a0 : Int) (v1 : Bool) : Option Int :=
 (bif v1 then
 some 2
 else joinK ((bif (a0 == 1) then
 some (.go true)
 else (bif (a0 == 2) then
 some (.go true)
 else (bif (a0 == 5) then
 some (.go true)
 else (bif (a0 == 6) then
 some (.go true)
 else some (.go (a0 == 7)))))))
 (fun s => J_impl_ArityOfx1 s))
theorem U_impl_ArityOf (a0 : Int) : Le ((bif (a0 == 0) then
 some 0
 else joinK ((bif (a0 == 3) then
 some (.go true)
 else some (.go (a0 == 4))))
 (fun s => J_impl_ArityOfx0 a0 s))) (F_impl_ArityOf a0) := callL_le (tt := tt) (FT := FT) (SP := SP) (j := 73) rfl (by kernel_rfl)
noncomputable def L_impl_widthx0 (a0 : List STable) (a1 : List SNode) (y1 : List Int) (f0 : (Int × Yt10 × Int) → Option (Ex Int (Int × Yt10))) (v2 : Int) (v3 : List Int) (v4 : Int) : Option (Ex Int (Int × Yt10)) :=
 (bif (decide (v4 < (y1.length : Int))) then
 (ix y1 v4).bind (fun z5 => (F_impl_width a0 a1 z5).bind (fun y6 => (bif (decide (y6 < 0)) then
 some (.ret (-1))
 else (apx v3 ([y6])).bind (fun z7 => f0 (v2, z7, (IntKind.i64.wrap (v4 + 1)))))))
 else some (.go (v2, v3)))
@[simp] noncomputable def J_impl_widthx3 (v9 : List Int) (v21 : Bool) : Option Yt21 :=
 (bif v21 then
 some (.ret (-1))
 else (ix v9 0).bind (fun z22 => (ix v9 1).bind (fun z23 => some (.ret (IntKind.i64.wrap (z22 + z23))))))
@[simp] noncomputable def J_impl_widthx2 (v8 : Int) (v9 : List Int) (z10 : SNode) (v13 : Bool) : Option Yt21 :=
 (bif v13 then
 (ix v9 0).bind (fun z14 => (bif (decide (z10.2.2.1 ≥ z14)) then
 some (.ret (-1))
 else some (.go v8)))
 else (bif (z10.1 == 2) then
 (F_slices_Max_Lint z10.2.2.2.2.2.2.1).bind (fun y15 => (ix v9 0).bind (fun z16 => (bif (decide (y15 ≥ z16)) then
 some (.ret (-1))
 else some (.ret (z10.2.2.2.2.2.2.1.length : Int)))))
 else (bif (z10.1 == 3) then
 joinK ((ix v9 0).bind (fun z17 => (bif (decide (z10.2.2.1 ≥ z17)) then
 some (.go true)
 else (ix v9 1).bind (fun z18 => (bif (decide (z10.2.2.2.2.1 ≥ z18)) then
 some (.go true)
 else (ix v9 0).bind (fun z19 => (ix v9 1).bind (fun z20 => some (.go (decide ((IntKind.i64.wrap (z19 + z20)) > 64))))))))))
 (fun s => J_impl_widthx3 v9 s)
 else (bif (z10.1 == 4) then
 (ix v9 0).bind (fun z24 => (ix v9 1).bind (fun z25 => (bif (z24 != z25) then
 some (.ret (-1))
 else some (.go v8))))
 else some (.go v8)))))
@[simp] noncomputable def J_impl_widthx1 (v9 : List Int) (v26 : Int) : Option Int :=
 (ix v9 0).bind (fun z27 => some z27)
@[simp] noncomputable def J_impl_widthx0 (a0 : List STable) (a1 : List SNode) (a2 : Int) (v8 : Int) (v9 : List Int) : Option Int :=
 (ix a1 a2).bind (fun z10 => joinK ((bif (z10.1 == 0) then
 (F_impl_tableAt a0 z10.2.1).bind (fun y11 => (bif (decide (y11 < 0)) then
 some (.ret (-1))
 else (ix a0 y11).bind (fun z12 => some (.ret z12.2.1))))
 else joinK ((bif (z10.1 == 1) then
 some (.go true)
 else some (.go (z10.1 == 5))))
 (fun s => J_impl_widthx2 v8 v9 z10 s)))
 (fun s => J_impl_widthx1 v9 s))
theorem U_impl_width (a0 : List STable) (a1 : List SNode) (a2 : Int) : Le (joinK ((F_impl_children a1 a2).bind (fun y1 => loopF (fun f s => L_impl_widthx0 a0 a1 y1 f s.1 s.2.1 s.2.2) (0, [], 0)))
 (fun s => J_impl_widthx0 a0 a1 a2 s.1 s.2)) (F_impl_width a0 a1 a2) := callL_le (tt := tt) (FT := FT) (SP := SP) (j := 74) rfl (by kernel_rfl)
noncomputable def L_impl_childrenx0 (a0 : List SNode) (y2 : Int) (f0 : (Yt10 × Int × Int) → Option (Ex Yt10 Yt10)) (v3 : List Int) (v4 : Int) (v5 : Int) : Option (Ex Yt10 Yt10) :=
 (bif (decide (v5 < y2)) then
 (apx v3 ([v4])).bind (fun z6 => (F_impl_end a0 v4 1).bind (fun y7 => f0 (z6, y7, (IntKind.i64.wrap (v5 + 1)))))
 else some (.go v3))
@[simp] noncomputable def J_impl_childrenx0 (v8 : List Int) : Option Yt10 :=
 some v8
theorem U_impl_children (a0 : List SNode) (a1 : Int) : Le (joinK ((ix a0 a1).bind (fun z1 => (F_impl_ArityOf z1.1).bind (fun y2 => loopF (fun f s => L_impl_childrenx0 a0 y2 f s.1 s.2.1 s.2.2) ([], (IntKind.i64.wrap (a1 + 1)), 0))))
 (fun s => J_impl_childrenx0 s)) (F_impl_children a0 a1) := callL_le (tt := tt) (FT := FT) (SP := SP) (j := 75) rfl (by kernel_rfl)
theorem U_impl_tableAt (a0 : List STable) (a1 : ByteArray) : Le ((F_slices_IndexFunc_LimplTable_impl_tableAt_1 a0 a1).bind (fun y1 => some y1.1)) (F_impl_tableAt a0 a1) := callL_le (tt := tt) (FT := FT) (SP := SP) (j := 76) rfl (by kernel_rfl)
noncomputable def L_slices_IndexFunc_LimplTable_impl_tableAt_1x0 (a0 : List STable) (f0 : (Int × Int × ByteArray) → Option (Ex Yt32 Yt32)) (v1 : Int) (v2 : Int) (v3 : ByteArray) : Option (Ex Yt32 Yt32) :=
 (bif (decide (v2 < (a0.length : Int))) then
 (ix a0 v2).bind (fun z4 => (F_impl_tableAt_1 z4 v3).bind (fun y5 => (bif y5.1 then
 some (.ret (v2, y5.2))
 else f0 (v1, (IntKind.i64.wrap (v2 + 1)), y5.2))))
 else some (.go (v1, v3)))
@[simp] noncomputable def J_slices_IndexFunc_LimplTable_impl_tableAt_1x0 (v6 : Int) (v7 : ByteArray) : Option Yt32 :=
 some ((-1), v7)
theorem U_slices_IndexFunc_LimplTable_impl_tableAt_1 (a0 : List STable) (a1x0x0 : ByteArray) : Le (joinK (loopF (fun f s => L_slices_IndexFunc_LimplTable_impl_tableAt_1x0 a0 f s.1 s.2.1 s.2.2) (0, 0, a1x0x0))
 (fun s => J_slices_IndexFunc_LimplTable_impl_tableAt_1x0 s.1 s.2)) (F_slices_IndexFunc_LimplTable_impl_tableAt_1 a0 a1x0x0) := callL_le (tt := tt) (FT := FT) (SP := SP) (j := 77) rfl (by kernel_rfl)
theorem U_impl_tableAt_1 (a0 : STable) (c0x0 : ByteArray) : Le (some ((a0.1.toList == c0x0.toList), c0x0)) (F_impl_tableAt_1 a0 c0x0) := callL_le (tt := tt) (FT := FT) (SP := SP) (j := 78) rfl (by kernel_rfl)
noncomputable def L_slices_Max_Lintx0 (a0 : List Int) (f0 : Yt19 → Option Yt21) (v2 : Int) (v3 : Int) : Option Yt21 :=
 (bif (decide (v3 < (a0.length : Int))) then
 (ix a0 v3).bind (fun z4 => f0 ((mmx true v2 z4), (IntKind.i64.wrap (v3 + 1))))
 else some (.go v2))
@[simp] noncomputable def J_slices_Max_Lintx1 (v5 : Int) : Option Int :=
 some v5
@[simp] noncomputable def J_slices_Max_Lintx0 (a0 : List Int) : Option Int :=
 (ix a0 0).bind (fun z1 => joinK (loopF (fun f s => L_slices_Max_Lintx0 a0 f s.1 s.2) (z1, 1))
 (fun s => J_slices_Max_Lintx1 s))
theorem U_slices_Max_Lint (a0 : List Int) : Le (joinK ((bif (decide ((a0.length : Int) < 1)) then
 none
 else some (.go ())))
 (fun _ => J_slices_Max_Lintx0 a0)) (F_slices_Max_Lint a0) := callL_le (tt := tt) (FT := FT) (SP := SP) (j := 79) rfl (by kernel_rfl)
theorem U_impl_hasSlot (a0 : List SNode) : Le ((F_slices_ContainsFunc_LimplNode_impl_hasSlot_1 a0).bind (fun y1 => some y1)) (F_impl_hasSlot a0) := callL_le (tt := tt) (FT := FT) (SP := SP) (j := 80) rfl (by kernel_rfl)
theorem U_slices_ContainsFunc_LimplNode_impl_hasSlot_1 (a0 : List SNode) : Le ((F_slices_IndexFunc_LimplNode_impl_hasSlot_1 a0).bind (fun y1 => some (decide (y1 ≥ 0)))) (F_slices_ContainsFunc_LimplNode_impl_hasSlot_1 a0) := callL_le (tt := tt) (FT := FT) (SP := SP) (j := 81) rfl (by kernel_rfl)
noncomputable def L_slices_IndexFunc_LimplNode_impl_hasSlot_1x0 (a0 : List SNode) (f0 : Yt19 → Option Yt21) (v1 : Int) (v2 : Int) : Option Yt21 :=
 (bif (decide (v2 < (a0.length : Int))) then
 (ix a0 v2).bind (fun z3 => (F_impl_hasSlot_1 z3).bind (fun y4 => (bif y4 then
 some (.ret v2)
 else f0 (v1, (IntKind.i64.wrap (v2 + 1))))))
 else some (.go v1))
@[simp] noncomputable def J_slices_IndexFunc_LimplNode_impl_hasSlot_1x0 (v5 : Int) : Option Int :=
 some (-1)
theorem U_slices_IndexFunc_LimplNode_impl_hasSlot_1 (a0 : List SNode) : Le (joinK (loopF (fun f s => L_slices_IndexFunc_LimplNode_impl_hasSlot_1x0 a0 f s.1 s.2) (0, 0))
 (fun s => J_slices_IndexFunc_LimplNode_impl_hasSlot_1x0 s)) (F_slices_IndexFunc_LimplNode_impl_hasSlot_1 a0) := callL_le (tt := tt) (FT := FT) (SP := SP) (j := 82) rfl (by kernel_rfl)
theorem U_impl_hasSlot_1 (a0 : SNode) : Le (some a0.2.2.2.2.2.1) (F_impl_hasSlot_1 a0) := callL_le (tt := tt) (FT := FT) (SP := SP) (j := 83) rfl (by kernel_rfl)
noncomputable def L_impl_evalx0 (a0 : List STable) (a1 : List Yt8) (a2 : List SNode) (y1 : List Int) (f0 : (Yt8 × Bool × Yt23 × Int) → Option (Ex Yt15 (Yt8 × Bool × Yt23))) (v2 : List Yt10) (v3 : Bool) (v4 : List Yt8) (v5 : Int) : Option (Ex Yt15 (Yt8 × Bool × Yt23)) :=
 (bif (decide (v5 < (y1.length : Int))) then
 (ix y1 v5).bind (fun z6 => (F_impl_eval a0 a1 a2 z6).bind (fun y7 => (bif (!y7.2) then
 some (.ret ([], false))
 else (apx v4 ([y7.1])).bind (fun z8 => f0 (v2, v3, z8, (IntKind.i64.wrap (v5 + 1)))))))
 else some (.go (v2, v3, v4)))
@[simp] noncomputable def J_impl_evalx1 (v18 : Int) (f1 : Yt14 → Option Yt15) (v23 : List Yt10) : Option Yt15 :=
 f1 (v23, (IntKind.i64.wrap (v18 + 1)))
noncomputable def L_impl_evalx1 (z12 : SNode) (z16 : List Yt10) (f1 : Yt14 → Option Yt15) (v17 : List Yt10) (v18 : Int) : Option Yt15 :=
 (bif (decide (v18 < (z16.length : Int))) then
 joinK ((ix z16 v18).bind (fun z19 => (ix z19 z12.2.2.1).bind (fun z20 => (F_impl_Node_keeps (z12.1, (z12.2.1, (z12.2.2.1, (z12.2.2.2.1, (z12.2.2.2.2.1, (z12.2.2.2.2.2.1, (z12.2.2.2.2.2.2.1, ()))))))) z20).bind (fun y21 => (bif y21 then
 (apx v17 ([z19])).bind (fun z22 => some (.go z22))
 else some (.go v17))))))
 (fun s => J_impl_evalx1 v18 f1 s)
 else some (v17, (decide ((v17.length : Int) ≤ 200))))
noncomputable def L_impl_evalx3 (z12 : SNode) (z28 : List Int) (f3 : (Yt10 × Int) → Option (Ex (Ex Yt15 Yt8) Yt10)) (v29 : List Int) (v30 : Int) : Option (Ex (Ex Yt15 Yt8) Yt10) :=
 (bif (decide (v30 < (z12.2.2.2.2.2.2.1.length : Int))) then
 (ix z12.2.2.2.2.2.2.1 v30).bind (fun z31 => (ix z28 z31).bind (fun z32 => (apx v29 ([z32])).bind (fun z33 => f3 (z33, (IntKind.i64.wrap (v30 + 1))))))
 else some (.go v29))
@[simp] noncomputable def J_impl_evalx3 (v26 : List Yt10) (v34 : List Int) : Option (Ex Yt15 Yt8) :=
 (apx v26 ([v34])).bind (fun z35 => some (.go z35))
@[simp] noncomputable def J_impl_evalx2 (v27 : Int) (f2 : Yt14 → Option Yt15) (v36 : List Yt10) : Option Yt15 :=
 f2 (v36, (IntKind.i64.wrap (v27 + 1)))
noncomputable def L_impl_evalx2 (z12 : SNode) (z25 : List Yt10) (f2 : Yt14 → Option Yt15) (v26 : List Yt10) (v27 : Int) : Option Yt15 :=
 (bif (decide (v27 < (z25.length : Int))) then
 joinK ((ix z25 v27).bind (fun z28 => joinK (loopF (fun f s => L_impl_evalx3 z12 z28 f s.1 s.2) ([], 0))
 (fun s => J_impl_evalx3 v26 s)))
 (fun s => J_impl_evalx2 v27 f2 s)
 else some (v26, (decide ((v26.length : Int) ≤ 200))))
@[simp] noncomputable def J_impl_evalx6 (z41 : List Int) (v44 : List Yt10) (z46 : List Int) (v50 : Bool) : Option (Ex (Ex Yt15 Yt8) Yt8) :=
 (bif v50 then
 (F_slices_Concat_Lint ([z41, z46])).bind (fun y51 => (apx v44 ([y51])).bind (fun z52 => some (.go z52)))
 else some (.go v44))
@[simp] noncomputable def J_impl_evalx5 (v45 : Int) (f5 : Yt14 → Option (Ex Yt15 Yt8)) (v53 : List Yt10) : Option (Ex Yt15 Yt8) :=
 f5 (v53, (IntKind.i64.wrap (v45 + 1)))
noncomputable def L_impl_evalx5 (z12 : SNode) (z41 : List Int) (z43 : List Yt10) (f5 : Yt14 → Option (Ex Yt15 Yt8)) (v44 : List Yt10) (v45 : Int) : Option (Ex Yt15 Yt8) :=
 (bif (decide (v45 < (z43.length : Int))) then
 joinK ((ix z43 v45).bind (fun z46 => joinK ((ix z41 z12.2.2.1).bind (fun z47 => (ix z46 z12.2.2.2.2.1).bind (fun z48 => (bif (z47 == z48) then
 (ix z41 z12.2.2.1).bind (fun z49 => some (.go (z49 != (-2000000))))
 else some (.go false)))))
 (fun s => J_impl_evalx6 z41 v44 z46 s)))
 (fun s => J_impl_evalx5 v45 f5 s)
 else some (.go v44))
@[simp] noncomputable def J_impl_evalx4 (v40 : Int) (f4 : Yt14 → Option Yt15) (v54 : List Yt10) : Option Yt15 :=
 f4 (v54, (IntKind.i64.wrap (v40 + 1)))
noncomputable def L_impl_evalx4 (v11 : List Yt8) (z12 : SNode) (z38 : List Yt10) (f4 : Yt14 → Option Yt15) (v39 : List Yt10) (v40 : Int) : Option Yt15 :=
 (bif (decide (v40 < (z38.length : Int))) then
 joinK ((ix z38 v40).bind (fun z41 => (ix v11 1).bind (fun z42 => (ix v11 1).bind (fun z43 => loopF (fun f s => L_impl_evalx5 z12 z41 z43 f s.1 s.2) (v39, 0)))))
 (fun s => J_impl_evalx4 v40 f4 s)
 else some (v39, (decide ((v39.length : Int) ≤ 200))))
@[simp] noncomputable def J_impl_evalx7 (v72 : Int) (f6 : Yt14 → Option Yt15) (v76 : List Yt10) : Option Yt15 :=
 f6 (v76, (IntKind.i64.wrap (v72 + 1)))
noncomputable def L_impl_evalx6 (z70 : List Yt10) (f6 : Yt14 → Option Yt15) (v71 : List Yt10) (v72 : Int) : Option Yt15 :=
 (bif (decide (v72 < (z70.length : Int))) then
 joinK ((ix z70 v72).bind (fun z73 => (F_impl_CountSame v71 z73).bind (fun y74 => (bif (y74 == 0) then
 (apx v71 ([z73])).bind (fun z75 => some (.go z75))
 else some (.go v71)))))
 (fun s => J_impl_evalx7 v72 f6 s)
 else some (v71, (decide ((v71.length : Int) ≤ 200))))
@[simp] noncomputable def J_impl_evalx0 (a0 : List STable) (a1 : List Yt8) (a2 : List SNode) (a3 : Int) (v9 : List Yt10) (v10 : Bool) (v11 : List Yt8) : Option Yt15 :=
 (ix a2 a3).bind (fun z12 => (bif (z12.1 == 0) then
 (F_impl_tableAt a0 z12.2.1).bind (fun y13 => (ix a1 y13).bind (fun z14 => some (z14, (decide ((z14.length : Int) ≤ 200)))))
 else (bif (z12.1 == 1) then
 (ix v11 0).bind (fun z15 => (ix v11 0).bind (fun z16 => loopF (fun f s => L_impl_evalx1 z12 z16 f s.1 s.2) ([], 0)))
 else (bif (z12.1 == 2) then
 (ix v11 0).bind (fun z24 => (ix v11 0).bind (fun z25 => loopF (fun f s => L_impl_evalx2 z12 z25 f s.1 s.2) ([], 0)))
 else (bif (z12.1 == 3) then
 (ix v11 0).bind (fun z37 => (ix v11 0).bind (fun z38 => loopF (fun f s => L_impl_evalx4 v11 z12 z38 f s.1 s.2) ([], 0)))
 else (bif (z12.1 == 4) then
 (ix v11 0).bind (fun z55 => (ix v11 0).bind (fun z56 => (ix v11 1).bind (fun z57 => (ix v11 1).bind (fun z58 => (F_slices_Concat_LLint ([z56, z58])).bind (fun y59 => some (y59, (decide ((y59.length : Int) ≤ 200))))))))
 else (bif (z12.1 == 5) then
 (ix v11 0).bind (fun z60 => (ix v11 0).bind (fun z61 => (F_slices_Clone_LLint z61).bind (fun y62 => (F_slices_SortStableFunc_LLint_impl_eval_1 y62 z12.1 z12.2.1 z12.2.2.1 z12.2.2.2.1 z12.2.2.2.2.1 z12.2.2.2.2.2.1 z12.2.2.2.2.2.2.1).bind (fun y63 => some (y63.1, (decide ((y63.1.length : Int) ≤ 200)))))))
 else (bif (z12.1 == 6) then
 (ix v11 0).bind (fun z64 => (ix v11 0).bind (fun z65 => (ix v11 0).bind (fun z66 => (ix v11 0).bind (fun z67 => (slx z65 0 (mmx false z12.2.2.2.2.1 (z67.length : Int))).bind (fun z68 => some (z68, (decide ((z68.length : Int) ≤ 200))))))))
 else (bif (z12.1 == 7) then
 (ix v11 0).bind (fun z69 => (ix v11 0).bind (fun z70 => loopF (fun f s => L_impl_evalx6 z70 f s.1 s.2) ([], 0)))
 else some ([], (decide ((([] : List Yt10).length : Int) ≤ 200))))))))))))
theorem U_impl_eval (a0 : List STable) (a1 : List Yt8) (a2 : List SNode) (a3 : Int) : Le (joinK ((F_impl_children a2 a3).bind (fun y1 => loopF (fun f s => L_impl_evalx0 a0 a1 a2 y1 f s.1 s.2.1 s.2.2.1 s.2.2.2) ([], false, [], 0)))
 (fun s => J_impl_evalx0 a0 a1 a2 a3 s.1 s.2.1 s.2.2)) (F_impl_eval a0 a1 a2 a3) := callL_le (tt := tt) (FT := FT) (SP := SP) (j := 84) rfl (by kernel_rfl)
@[simp] noncomputable def J_impl_Node_keepsx0 (v1 : Bool) : Option Bool :=
 some v1
@[simp] noncomputable def J_impl_Node_keepsx1 (v2 : Bool) : Option Bool :=
 some v2
theorem U_impl_Node_keeps (a0 : SNode) (a1 : Int) : Le ((bif (a0.2.2.2.1 == 3) then
 some (a1 == (-2000000))
 else (bif (a0.2.2.2.1 == 0) then
 some (a1 == a0.2.2.2.2.1)
 else (bif (a0.2.2.2.1 == 1) then
 joinK ((bif (a1 != (-2000000)) then
 some (.go (decide (a1 < a0.2.2.2.2.1)))
 else some (.go false)))
 (fun s => J_impl_Node_keepsx0 s)
 else joinK ((bif (a1 != (-2000000)) then
 some (.go (decide (a1 > a0.2.2.2.2.1)))
 else some (.go false)))
 (fun s => J_impl_Node_keepsx1 s))))) (F_impl_Node_keeps a0 a1) := callL_le (tt := tt) (FT := FT) (SP := SP) (j := 85) rfl (by kernel_rfl)
@[simp] noncomputable def J_slices_Concat_Lintx1 (v2 : Int) (f0 : Yt19 → Option (Ex Yt10 Int)) (v4 : Int) : Option (Ex Yt10 Int) :=
 f0 (v4, (IntKind.i64.wrap (v2 + 1)))
noncomputable def L_slices_Concat_Lintx0 (a0 : List Yt10) (f0 : Yt19 → Option (Ex Yt10 Int)) (v1 : Int) (v2 : Int) : Option (Ex Yt10 Int) :=
 (bif (decide (v2 < (a0.length : Int))) then
 joinK ((ix a0 v2).bind (fun z3 => (bif (decide ((IntKind.i64.wrap (v1 + (z3.length : Int))) < 0)) then
 none
 else some (.go (IntKind.i64.wrap (v1 + (z3.length : Int)))))))
 (fun s => J_slices_Concat_Lintx1 v2 f0 s)
 else some (.go v1))
noncomputable def L_slices_Concat_Lintx1 (a0 : List Yt10) (f1 : (Yt10 × Int) → Option (Ex Yt10 Yt10)) (v7 : List Int) (v8 : Int) : Option (Ex Yt10 Yt10) :=
 (bif (decide (v8 < (a0.length : Int))) then
 (ix a0 v8).bind (fun z9 => (apx v7 z9).bind (fun z10 => f1 (z10, (IntKind.i64.wrap (v8 + 1)))))
 else some (.go v7))
@[simp] noncomputable def J_slices_Concat_Lintx2 (v11 : List Int) : Option Yt10 :=
 some v11
@[simp] noncomputable def J_slices_Concat_Lintx0 (a0 : List Yt10) (v5 : Int) : Option Yt10 :=
 (F_slices_Grow_Lint v5).bind (fun y6 => joinK (loopF (fun f s => L_slices_Concat_Lintx1 a0 f s.1 s.2) (y6, 0))
 (fun s => J_slices_Concat_Lintx2 s))
theorem U_slices_Concat_Lint (a0 : List Yt10) : Le (joinK (loopF (fun f s => L_slices_Concat_Lintx0 a0 f s.1 s.2) (0, 0))
 (fun s => J_slices_Concat_Lintx0 a0 s)) (F_slices_Concat_Lint a0) := callL_le (tt := tt) (FT := FT) (SP := SP) (j := 86) rfl (by kernel_rfl)
theorem U_slices_Grow_Lint (a1 : Int) : Le ((bif (decide (a1 < 0)) then
 none
 else (bif (decide ((IntKind.i64.wrap (a1 - (IntKind.i64.wrap (0 - 0)))) > 0)) then
 (mkx (IntKind.i64.wrap (a1 - (IntKind.i64.wrap (0 - 0)))) (0 : Int)).bind (fun z1 => (tkx z1 0).bind (fun z2 => some z2))
 else some ([])))) (F_slices_Grow_Lint a1) := callL_le (tt := tt) (FT := FT) (SP := SP) (j := 87) rfl (by kernel_rfl)
@[simp] noncomputable def J_slices_Concat_LLintx1 (v2 : Int) (f0 : Yt19 → Option (Ex Yt8 Int)) (v4 : Int) : Option (Ex Yt8 Int) :=
 f0 (v4, (IntKind.i64.wrap (v2 + 1)))
noncomputable def L_slices_Concat_LLintx0 (a0 : List Yt8) (f0 : Yt19 → Option (Ex Yt8 Int)) (v1 : Int) (v2 : Int) : Option (Ex Yt8 Int) :=
 (bif (decide (v2 < (a0.length : Int))) then
 joinK ((ix a0 v2).bind (fun z3 => (bif (decide ((IntKind.i64.wrap (v1 + (z3.length : Int))) < 0)) then
 none
 else some (.go (IntKind.i64.wrap (v1 + (z3.length : Int)))))))
 (fun s => J_slices_Concat_LLintx1 v2 f0 s)
 else some (.go v1))
noncomputable def L_slices_Concat_LLintx1 (a0 : List Yt8) (f1 : Yt14 → Option Yt18) (v7 : List Yt10) (v8 : Int) : Option Yt18 :=
 (bif (decide (v8 < (a0.length : Int))) then
 (ix a0 v8).bind (fun z9 => (apx v7 z9).bind (fun z10 => f1 (z10, (IntKind.i64.wrap (v8 + 1)))))
 else some (.go v7))
@[simp] noncomputable def J_slices_Concat_LLintx2 (v11 : List Yt10) : Option Yt8 :=
 some v11
@[simp] noncomputable def J_slices_Concat_LLintx0 (a0 : List Yt8) (v5 : Int) : Option Yt8 :=
 (F_slices_Grow_LLint v5).bind (fun y6 => joinK (loopF (fun f s => L_slices_Concat_LLintx1 a0 f s.1 s.2) (y6, 0))
 (fun s => J_slices_Concat_LLintx2 s))
theorem U_slices_Concat_LLint (a0 : List Yt8) : Le (joinK (loopF (fun f s => L_slices_Concat_LLintx0 a0 f s.1 s.2) (0, 0))
 (fun s => J_slices_Concat_LLintx0 a0 s)) (F_slices_Concat_LLint a0) := callL_le (tt := tt) (FT := FT) (SP := SP) (j := 88) rfl (by kernel_rfl)
theorem U_slices_Grow_LLint (a1 : Int) : Le ((bif (decide (a1 < 0)) then
 none
 else (bif (decide ((IntKind.i64.wrap (a1 - (IntKind.i64.wrap (0 - 0)))) > 0)) then
 (mkx (IntKind.i64.wrap (a1 - (IntKind.i64.wrap (0 - 0)))) ([] : List Int)).bind (fun z1 => (tkx z1 0).bind (fun z2 => some z2))
 else some ([])))) (F_slices_Grow_LLint a1) := callL_le (tt := tt) (FT := FT) (SP := SP) (j := 89) rfl (by kernel_rfl)
theorem U_slices_Clone_LLint (a0 : List Yt10) : Le ((nilx a0.isEmpty
 (some ([]))
 ((apx ([]) a0).bind (fun z1 => some z1)))) (F_slices_Clone_LLint a0) := callL_le (tt := tt) (FT := FT) (SP := SP) (j := 90) rfl (by kernel_rfl)
theorem U_slices_SortStableFunc_LLint_impl_eval_1 (a0 : List Yt10) (a1x0x0 : Int) (a1x0x1 : ByteArray) (a1x0x2 : Int) (a1x0x3 : Int) (a1x0x4 : Int) (a1x0x5 : Bool) (a1x0x6 : List Int) : Le ((F_slices_stableCmpFunc_Lint_impl_eval_1 a0 (a0.length : Int) a1x0x0 a1x0x1 a1x0x2 a1x0x3 a1x0x4 a1x0x5 a1x0x6).bind (fun y1 => some (y1.1, y1.2.1, y1.2.2.1, y1.2.2.2.1, y1.2.2.2.2.1, y1.2.2.2.2.2.1, y1.2.2.2.2.2.2.1, y1.2.2.2.2.2.2.2))) (F_slices_SortStableFunc_LLint_impl_eval_1 a0 a1x0x0 a1x0x1 a1x0x2 a1x0x3 a1x0x4 a1x0x5 a1x0x6) := callL_le (tt := tt) (FT := FT) (SP := SP) (j := 91) rfl (by kernel_rfl)
noncomputable def L_slices_stableCmpFunc_Lint_impl_eval_1x0 (a1 : Int) (f0 : Yt25 → Option (Ex Yt9 Yt12)) (v1 : Int) (v2 : Int) (v3 : List Yt10) (v4 : Int) (v5 : ByteArray) (v6 : Int) (v7 : Int) (v8 : Int) (v9 : Bool) (v10 : List Int) : Option (Ex Yt9 Yt12) :=
 (bif (decide (v2 ≤ a1)) then
 (F_slices_insertionSortCmpFunc_Lint_impl_eval_1 v3 v1 v2 v4 v5 v6 v7 v8 v9 v10).bind (fun y11 => f0 (v2, (IntKind.i64.wrap (v2 + 20)), y11.1, y11.2.1, y11.2.2.1, y11.2.2.2.1, y11.2.2.2.2.1, y11.2.2.2.2.2.1, y11.2.2.2.2.2.2.1, y11.2.2.2.2.2.2.2))
 else some (.go (v1, v3, v4, v5, v6, v7, v8, v9, v10)))
noncomputable def L_slices_stableCmpFunc_Lint_impl_eval_1x2 (a1 : Int) (v22 : Int) (f2 : Yt25 → Option (Ex Yt9 Yt12)) (v31 : Int) (v32 : Int) (v33 : List Yt10) (v34 : Int) (v35 : ByteArray) (v36 : Int) (v37 : Int) (v38 : Int) (v39 : Bool) (v40 : List Int) : Option (Ex Yt9 Yt12) :=
 (bif (decide (v32 ≤ a1)) then
 (F_slices_symMergeCmpFunc_Lint_impl_eval_1 v33 v31 (IntKind.i64.wrap (v31 + v22)) v32 v34 v35 v36 v37 v38 v39 v40).bind (fun y41 => f2 (v32, (IntKind.i64.wrap (v32 + (IntKind.i64.wrap (2 * v22)))), y41.1, y41.2.1, y41.2.2.1, y41.2.2.2.1, y41.2.2.2.2.1, y41.2.2.2.2.2.1, y41.2.2.2.2.2.2.1, y41.2.2.2.2.2.2.2))
 else some (.go (v31, v33, v34, v35, v36, v37, v38, v39, v40)))
@[simp] noncomputable def J_slices_stableCmpFunc_Lint_impl_eval_1x2 (v22 : Int) (f1 : Yt12 → Option Yt9) (v52 : List Yt10) (v53 : Int) (v54 : ByteArray) (v55 : Int) (v56 : Int) (v57 : Int) (v58 : Bool) (v59 : List Int) : Option Yt9 :=
 f1 ((IntKind.i64.wrap (v22 * 2)), v52, v53, v54, v55, v56, v57, v58, v59)
@[simp] noncomputable def J_slices_stableCmpFunc_Lint_impl_eval_1x1 (a1 : Int) (v22 : Int) (f1 : Yt12 → Option Yt9) (v42 : Int) (v43 : List Yt10) (v44 : Int) (v45 : ByteArray) (v46 : Int) (v47 : Int) (v48 : Int) (v49 : Bool) (v50 : List Int) : Option Yt9 :=
 joinK ((bif (decide ((IntKind.i64.wrap (v42 + v22)) < a1)) then
 (F_slices_symMergeCmpFunc_Lint_impl_eval_1 v43 v42 (IntKind.i64.wrap (v42 + v22)) a1 v44 v45 v46 v47 v48 v49 v50).bind (fun y51 => some (.go (y51.1, y51.2.1, y51.2.2.1, y51.2.2.2.1, y51.2.2.2.2.1, y51.2.2.2.2.2.1, y51.2.2.2.2.2.2.1, y51.2.2.2.2.2.2.2)))
 else some (.go (v43, v44, v45, v46, v47, v48, v49, v50))))
 (fun s => J_slices_stableCmpFunc_Lint_impl_eval_1x2 v22 f1 s.1 s.2.1 s.2.2.1 s.2.2.2.1 s.2.2.2.2.1 s.2.2.2.2.2.1 s.2.2.2.2.2.2.1 s.2.2.2.2.2.2.2)
noncomputable def L_slices_stableCmpFunc_Lint_impl_eval_1x1 (a1 : Int) (f1 : Yt12 → Option Yt9) (v22 : Int) (v23 : List Yt10) (v24 : Int) (v25 : ByteArray) (v26 : Int) (v27 : Int) (v28 : Int) (v29 : Bool) (v30 : List Int) : Option Yt9 :=
 (bif (decide (v22 < a1)) then
 joinK (loopF (fun f s => L_slices_stableCmpFunc_Lint_impl_eval_1x2 a1 v22 f s.1 s.2.1 s.2.2.1 s.2.2.2.1 s.2.2.2.2.1 s.2.2.2.2.2.1 s.2.2.2.2.2.2.1 s.2.2.2.2.2.2.2.1 s.2.2.2.2.2.2.2.2.1 s.2.2.2.2.2.2.2.2.2) (0, (IntKind.i64.wrap (2 * v22)), v23, v24, v25, v26, v27, v28, v29, v30))
 (fun s => J_slices_stableCmpFunc_Lint_impl_eval_1x1 a1 v22 f1 s.1 s.2.1 s.2.2.1 s.2.2.2.1 s.2.2.2.2.1 s.2.2.2.2.2.1 s.2.2.2.2.2.2.1 s.2.2.2.2.2.2.2.1 s.2.2.2.2.2.2.2.2)
 else some (v23, v24, v25, v26, v27, v28, v29, v30))
@[simp] noncomputable def J_slices_stableCmpFunc_Lint_impl_eval_1x0 (a1 : Int) (v12 : Int) (v13 : List Yt10) (v14 : Int) (v15 : ByteArray) (v16 : Int) (v17 : Int) (v18 : Int) (v19 : Bool) (v20 : List Int) : Option Yt9 :=
 (F_slices_insertionSortCmpFunc_Lint_impl_eval_1 v13 v12 a1 v14 v15 v16 v17 v18 v19 v20).bind (fun y21 => loopF (fun f s => L_slices_stableCmpFunc_Lint_impl_eval_1x1 a1 f s.1 s.2.1 s.2.2.1 s.2.2.2.1 s.2.2.2.2.1 s.2.2.2.2.2.1 s.2.2.2.2.2.2.1 s.2.2.2.2.2.2.2.1 s.2.2.2.2.2.2.2.2) (20, y21.1, y21.2.1, y21.2.2.1, y21.2.2.2.1, y21.2.2.2.2.1, y21.2.2.2.2.2.1, y21.2.2.2.2.2.2.1, y21.2.2.2.2.2.2.2))
theorem U_slices_stableCmpFunc_Lint_impl_eval_1 (a0 : List Yt10) (a1 : Int) (a2x0x0 : Int) (a2x0x1 : ByteArray) (a2x0x2 : Int) (a2x0x3 : Int) (a2x0x4 : Int) (a2x0x5 : Bool) (a2x0x6 : List Int) : Le (joinK (loopF (fun f s => L_slices_stableCmpFunc_Lint_impl_eval_1x0 a1 f s.1 s.2.1 s.2.2.1 s.2.2.2.1 s.2.2.2.2.1 s.2.2.2.2.2.1 s.2.2.2.2.2.2.1 s.2.2.2.2.2.2.2.1 s.2.2.2.2.2.2.2.2.1 s.2.2.2.2.2.2.2.2.2) (0, 20, a0, a2x0x0, a2x0x1, a2x0x2, a2x0x3, a2x0x4, a2x0x5, a2x0x6))
 (fun s => J_slices_stableCmpFunc_Lint_impl_eval_1x0 a1 s.1 s.2.1 s.2.2.1 s.2.2.2.1 s.2.2.2.2.1 s.2.2.2.2.2.1 s.2.2.2.2.2.2.1 s.2.2.2.2.2.2.2.1 s.2.2.2.2.2.2.2.2)) (F_slices_stableCmpFunc_Lint_impl_eval_1 a0 a1 a2x0x0 a2x0x1 a2x0x2 a2x0x3 a2x0x4 a2x0x5 a2x0x6) := callL_le (tt := tt) (FT := FT) (SP := SP) (j := 92) rfl (by kernel_rfl)
@[simp] noncomputable def J_slices_insertionSortCmpFunc_Lint_impl_eval_1x1 (v10 : Int) (v11 : List Yt10) (f1 : Yt12 → Option Yt28) (v24 : Bool) (v25 : Int) (v26 : ByteArray) (v27 : Int) (v28 : Int) (v29 : Int) (v30 : Bool) (v31 : List Int) : Option Yt28 :=
 (bif v24 then
 (inx v11.length (IntKind.i64.wrap (v10 - 1))).bind (fun z32 => (ix v11 (IntKind.i64.wrap (v10 - 1))).bind (fun z33 => (inx v11.length v10).bind (fun z34 => (ix v11 v10).bind (fun z35 => (inx v11.length v10).bind (fun z36 => (stx v11 v10 z33).bind (fun z37 => (inx v11.length (IntKind.i64.wrap (v10 - 1))).bind (fun z38 => (stx z37 (IntKind.i64.wrap (v10 - 1)) z35).bind (fun z39 => f1 ((IntKind.i64.wrap (v10 - 1)), z39, v25, v26, v27, v28, v29, v30, v31)))))))))
 else some (.go (v11, v25, v26, v27, v28, v29, v30, v31)))
noncomputable def L_slices_insertionSortCmpFunc_Lint_impl_eval_1x1 (a1 : Int) (f1 : Yt12 → Option Yt28) (v10 : Int) (v11 : List Yt10) (v12 : Int) (v13 : ByteArray) (v14 : Int) (v15 : Int) (v16 : Int) (v17 : Bool) (v18 : List Int) : Option Yt28 :=
 joinK ((bif (decide (v10 > a1)) then
 (ix v11 v10).bind (fun z19 => (ix v11 v10).bind (fun z20 => (ix v11 (IntKind.i64.wrap (v10 - 1))).bind (fun z21 => (ix v11 (IntKind.i64.wrap (v10 - 1))).bind (fun z22 => (F_impl_eval_1 z20 z22 v12 v13 v14 v15 v16 v17 v18).bind (fun y23 => some (.go ((decide (y23.1 < 0)), y23.2.1, y23.2.2.1, y23.2.2.2.1, y23.2.2.2.2.1, y23.2.2.2.2.2.1, y23.2.2.2.2.2.2.1, y23.2.2.2.2.2.2.2)))))))
 else some (.go (false, v12, v13, v14, v15, v16, v17, v18))))
 (fun s => J_slices_insertionSortCmpFunc_Lint_impl_eval_1x1 v10 v11 f1 s.1 s.2.1 s.2.2.1 s.2.2.2.1 s.2.2.2.2.1 s.2.2.2.2.2.1 s.2.2.2.2.2.2.1 s.2.2.2.2.2.2.2)
@[simp] noncomputable def J_slices_insertionSortCmpFunc_Lint_impl_eval_1x0 (v1 : Int) (f0 : Yt12 → Option Yt9) (v40 : List Yt10) (v41 : Int) (v42 : ByteArray) (v43 : Int) (v44 : Int) (v45 : Int) (v46 : Bool) (v47 : List Int) : Option Yt9 :=
 f0 ((IntKind.i64.wrap (v1 + 1)), v40, v41, v42, v43, v44, v45, v46, v47)
noncomputable def L_slices_insertionSortCmpFunc_Lint_impl_eval_1x0 (a1 : Int) (a2 : Int) (f0 : Yt12 → Option Yt9) (v1 : Int) (v2 : List Yt10) (v3 : Int) (v4 : ByteArray) (v5 : Int) (v6 : Int) (v7 : Int) (v8 : Bool) (v9 : List Int) : Option Yt9 :=
 (bif (decide (v1 < a2)) then
 joinK (loopF (fun f s => L_slices_insertionSortCmpFunc_Lint_impl_eval_1x1 a1 f s.1 s.2.1 s.2.2.1 s.2.2.2.1 s.2.2.2.2.1 s.2.2.2.2.2.1 s.2.2.2.2.2.2.1 s.2.2.2.2.2.2.2.1 s.2.2.2.2.2.2.2.2) (v1, v2, v3, v4, v5, v6, v7, v8, v9))
 (fun s => J_slices_insertionSortCmpFunc_Lint_impl_eval_1x0 v1 f0 s.1 s.2.1 s.2.2.1 s.2.2.2.1 s.2.2.2.2.1 s.2.2.2.2.2.1 s.2.2.2.2.2.2.1 s.2.2.2.2.2.2.2)
 else some (v2, v3, v4, v5, v6, v7, v8, v9))
theorem U_slices_insertionSortCmpFunc_Lint_impl_eval_1 (a0 : List Yt10) (a1 : Int) (a2 : Int) (a3x0x0 : Int) (a3x0x1 : ByteArray) (a3x0x2 : Int) (a3x0x3 : Int) (a3x0x4 : Int) (a3x0x5 : Bool) (a3x0x6 : List Int) : Le (loopF (fun f s => L_slices_insertionSortCmpFunc_Lint_impl_eval_1x0 a1 a2 f s.1 s.2.1 s.2.2.1 s.2.2.2.1 s.2.2.2.2.1 s.2.2.2.2.2.1 s.2.2.2.2.2.2.1 s.2.2.2.2.2.2.2.1 s.2.2.2.2.2.2.2.2) ((IntKind.i64.wrap (a1 + 1)), a0, a3x0x0, a3x0x1, a3x0x2, a3x0x3, a3x0x4, a3x0x5, a3x0x6)) (F_slices_insertionSortCmpFunc_Lint_impl_eval_1 a0 a1 a2 a3x0x0 a3x0x1 a3x0x2 a3x0x3 a3x0x4 a3x0x5 a3x0x6) := callL_le (tt := tt) (FT := FT) (SP := SP) (j := 93) rfl (by kernel_rfl)
theorem U_impl_eval_1 (a0 : List Int) (a1 : List Int) (c0x0 : Int) (c0x1 : ByteArray) (c0x2 : Int) (c0x3 : Int) (c0x4 : Int) (c0x5 : Bool) (c0x6 : List Int) : Le ((ix a0 c0x2).bind (fun z1 => (ix a1 c0x2).bind (fun z2 => (F_cmp_Compare_int z1 z2).bind (fun y3 => some (y3, c0x0, c0x1, c0x2, c0x3, c0x4, c0x5, c0x6))))) (F_impl_eval_1 a0 a1 c0x0 c0x1 c0x2 c0x3 c0x4 c0x5 c0x6) := callL_le (tt := tt) (FT := FT) (SP := SP) (j := 94) rfl (by kernel_rfl)
theorem U_cmp_Compare_int (a0 : Int) (a1 : Int) : Le ((F_cmp_isNaN_int a0).bind (fun y1 => (F_cmp_isNaN_int a1).bind (fun y2 => (bif y1 then
 (bif y2 then
 some 0
 else some (-1))
 else (bif y2 then
 some 1
 else (bif (decide (a0 < a1)) then
 some (-1)
 else (bif (decide (a0 > a1)) then
 some 1
 else some 0))))))) (F_cmp_Compare_int a0 a1) := callL_le (tt := tt) (FT := FT) (SP := SP) (j := 95) rfl (by kernel_rfl)
theorem U_cmp_isNaN_int (a0 : Int) : Le (some (a0 != a0)) (F_cmp_isNaN_int a0) := callL_le (tt := tt) (FT := FT) (SP := SP) (j := 96) rfl (by kernel_rfl)
noncomputable def L_slices_symMergeCmpFunc_Lint_impl_eval_1x0 (a0 : List Yt10) (a1 : Int) (f0 : Yt27 → Option (Ex Yt28 Yt16)) (v1 : Int) (v2 : Int) (v3 : Int) (v4 : ByteArray) (v5 : Int) (v6 : Int) (v7 : Int) (v8 : Bool) (v9 : List Int) : Option (Ex Yt28 Yt16) :=
 (bif (decide (v1 < v2)) then
 (shrV .u64 (IntKind.u64.wrap (IntKind.i64.wrap (v1 + v2))) 1).bind (fun z10 => (ix a0 (IntKind.i64.wrap z10)).bind (fun z11 => (ix a0 (IntKind.i64.wrap z10)).bind (fun z12 => (ix a0 a1).bind (fun z13 => (ix a0 a1).bind (fun z14 => (F_impl_eval_1 z12 z14 v3 v4 v5 v6 v7 v8 v9).bind (fun y15 => (bif (decide (y15.1 < 0)) then
 f0 ((IntKind.i64.wrap ((IntKind.i64.wrap z10) + 1)), v2, y15.2.1, y15.2.2.1, y15.2.2.2.1, y15.2.2.2.2.1, y15.2.2.2.2.2.1, y15.2.2.2.2.2.2.1, y15.2.2.2.2.2.2.2)
 else f0 (v1, (IntKind.i64.wrap z10), y15.2.1, y15.2.2.1, y15.2.2.2.1, y15.2.2.2.2.1, y15.2.2.2.2.2.1, y15.2.2.2.2.2.2.1, y15.2.2.2.2.2.2.2))))))))
 else some (.go (v1, v3, v4, v5, v6, v7, v8, v9)))
noncomputable def L_slices_symMergeCmpFunc_Lint_impl_eval_1x1 (v16 : Int) (f1 : (Int × Yt8) → Option (Ex Yt28 Yt8)) (v24 : Int) (v25 : List Yt10) : Option (Ex Yt28 Yt8) :=
 (bif (decide (v24 < (IntKind.i64.wrap (v16 - 1)))) then
 (inx v25.length (IntKind.i64.wrap (v24 + 1))).bind (fun z26 => (ix v25 (IntKind.i64.wrap (v24 + 1))).bind (fun z27 => (inx v25.length v24).bind (fun z28 => (ix v25 v24).bind (fun z29 => (inx v25.length v24).bind (fun z30 => (stx v25 v24 z27).bind (fun z31 => (inx v25.length (IntKind.i64.wrap (v24 + 1))).bind (fun z32 => (stx z31 (IntKind.i64.wrap (v24 + 1)) z29).bind (fun z33 => f1 ((IntKind.i64.wrap (v24 + 1)), z33)))))))))
 else some (.go v25))
@[simp] noncomputable def J_slices_symMergeCmpFunc_Lint_impl_eval_1x2 (v17 : Int) (v18 : ByteArray) (v19 : Int) (v20 : Int) (v21 : Int) (v22 : Bool) (v23 : List Int) (v34 : List Yt10) : Option Yt28 :=
 some (.ret (v34, v17, v18, v19, v20, v21, v22, v23))
@[simp] noncomputable def J_slices_symMergeCmpFunc_Lint_impl_eval_1x1 (a0 : List Yt10) (a1 : Int) (v16 : Int) (v17 : Int) (v18 : ByteArray) (v19 : Int) (v20 : Int) (v21 : Int) (v22 : Bool) (v23 : List Int) : Option Yt28 :=
 joinK (loopF (fun f s => L_slices_symMergeCmpFunc_Lint_impl_eval_1x1 v16 f s.1 s.2) (a1, a0))
 (fun s => J_slices_symMergeCmpFunc_Lint_impl_eval_1x2 v17 v18 v19 v20 v21 v22 v23 s)
noncomputable def L_slices_symMergeCmpFunc_Lint_impl_eval_1x2 (a2 : Int) (v35 : List Yt10) (f2 : Yt27 → Option (Ex Yt28 Yt16)) (v43 : Int) (v44 : Int) (v45 : Int) (v46 : ByteArray) (v47 : Int) (v48 : Int) (v49 : Int) (v50 : Bool) (v51 : List Int) : Option (Ex Yt28 Yt16) :=
 (bif (decide (v43 < v44)) then
 (shrV .u64 (IntKind.u64.wrap (IntKind.i64.wrap (v43 + v44))) 1).bind (fun z52 => (ix v35 a2).bind (fun z53 => (ix v35 a2).bind (fun z54 => (ix v35 (IntKind.i64.wrap z52)).bind (fun z55 => (ix v35 (IntKind.i64.wrap z52)).bind (fun z56 => (F_impl_eval_1 z54 z56 v45 v46 v47 v48 v49 v50 v51).bind (fun y57 => (bif (!(decide (y57.1 < 0))) then
 f2 ((IntKind.i64.wrap ((IntKind.i64.wrap z52) + 1)), v44, y57.2.1, y57.2.2.1, y57.2.2.2.1, y57.2.2.2.2.1, y57.2.2.2.2.2.1, y57.2.2.2.2.2.2.1, y57.2.2.2.2.2.2.2)
 else f2 (v43, (IntKind.i64.wrap z52), y57.2.1, y57.2.2.1, y57.2.2.2.1, y57.2.2.2.2.1, y57.2.2.2.2.2.1, y57.2.2.2.2.2.2.1, y57.2.2.2.2.2.2.2))))))))
 else some (.go (v43, v45, v46, v47, v48, v49, v50, v51)))
noncomputable def L_slices_symMergeCmpFunc_Lint_impl_eval_1x3 (v58 : Int) (f3 : (Int × Yt8) → Option (Ex Yt28 Yt8)) (v66 : Int) (v67 : List Yt10) : Option (Ex Yt28 Yt8) :=
 (bif (decide (v66 > v58)) then
 (inx v67.length (IntKind.i64.wrap (v66 - 1))).bind (fun z68 => (ix v67 (IntKind.i64.wrap (v66 - 1))).bind (fun z69 => (inx v67.length v66).bind (fun z70 => (ix v67 v66).bind (fun z71 => (inx v67.length v66).bind (fun z72 => (stx v67 v66 z69).bind (fun z73 => (inx v67.length (IntKind.i64.wrap (v66 - 1))).bind (fun z74 => (stx z73 (IntKind.i64.wrap (v66 - 1)) z71).bind (fun z75 => f3 ((IntKind.i64.wrap (v66 - 1)), z75)))))))))
 else some (.go v67))
@[simp] noncomputable def J_slices_symMergeCmpFunc_Lint_impl_eval_1x5 (v59 : Int) (v60 : ByteArray) (v61 : Int) (v62 : Int) (v63 : Int) (v64 : Bool) (v65 : List Int) (v76 : List Yt10) : Option Yt28 :=
 some (.ret (v76, v59, v60, v61, v62, v63, v64, v65))
@[simp] noncomputable def J_slices_symMergeCmpFunc_Lint_impl_eval_1x4 (a2 : Int) (v35 : List Yt10) (v58 : Int) (v59 : Int) (v60 : ByteArray) (v61 : Int) (v62 : Int) (v63 : Int) (v64 : Bool) (v65 : List Int) : Option Yt28 :=
 joinK (loopF (fun f s => L_slices_symMergeCmpFunc_Lint_impl_eval_1x3 v58 f s.1 s.2) (a2, v35))
 (fun s => J_slices_symMergeCmpFunc_Lint_impl_eval_1x5 v59 v60 v61 v62 v63 v64 v65 s)
noncomputable def L_slices_symMergeCmpFunc_Lint_impl_eval_1x4 (a2 : Int) (v77 : List Yt10) (z85 : Int) (f4 : Yt27 → Option (Ex Yt9 Yt16)) (v88 : Int) (v89 : Int) (v90 : Int) (v91 : ByteArray) (v92 : Int) (v93 : Int) (v94 : Int) (v95 : Bool) (v96 : List Int) : Option (Ex Yt9 Yt16) :=
 (bif (decide (v88 < v89)) then
 (shrV .u64 (IntKind.u64.wrap (IntKind.i64.wrap (v88 + v89))) 1).bind (fun z97 => (ix v77 (IntKind.i64.wrap ((IntKind.i64.wrap ((IntKind.i64.wrap ((IntKind.i64.wrap z85) + a2)) - 1)) - (IntKind.i64.wrap z97)))).bind (fun z98 => (ix v77 (IntKind.i64.wrap ((IntKind.i64.wrap ((IntKind.i64.wrap ((IntKind.i64.wrap z85) + a2)) - 1)) - (IntKind.i64.wrap z97)))).bind (fun z99 => (ix v77 (IntKind.i64.wrap z97)).bind (fun z100 => (ix v77 (IntKind.i64.wrap z97)).bind (fun z101 => (F_impl_eval_1 z99 z101 v90 v91 v92 v93 v94 v95 v96).bind (fun y102 => (bif (!(decide (y102.1 < 0))) then
 f4 ((IntKind.i64.wrap ((IntKind.i64.wrap z97) + 1)), v89, y102.2.1, y102.2.2.1, y102.2.2.2.1, y102.2.2.2.2.1, y102.2.2.2.2.2.1, y102.2.2.2.2.2.2.1, y102.2.2.2.2.2.2.2)
 else f4 (v88, (IntKind.i64.wrap z97), y102.2.1, y102.2.2.1, y102.2.2.2.1, y102.2.2.2.2.1, y102.2.2.2.2.2.1, y102.2.2.2.2.2.2.1, y102.2.2.2.2.2.2.2))))))))
 else some (.go (v88, v90, v91, v92, v93, v94, v95, v96)))
@[simp] noncomputable def J_slices_symMergeCmpFunc_Lint_impl_eval_1x9 (a2 : Int) (v77 : List Yt10) (z85 : Int) (v103 : Int) (v104 : Int) (v105 : ByteArray) (v106 : Int) (v107 : Int) (v108 : Int) (v109 : Bool) (v110 : List Int) (v111 : Bool) : Option Yt28 :=
 (bif v111 then
 (F_slices_rotateCmpFunc_Lint_impl_eval_1 v77 v103 a2 (IntKind.i64.wrap ((IntKind.i64.wrap ((IntKind.i64.wrap z85) + a2)) - v103)) v104 v105 v106 v107 v108 v109 v110).bind (fun y112 => some (.go (y112.1, y112.2.1, y112.2.2.1, y112.2.2.2.1, y112.2.2.2.2.1, y112.2.2.2.2.2.1, y112.2.2.2.2.2.2.1, y112.2.2.2.2.2.2.2)))
 else some (.go (v77, v104, v105, v106, v107, v108, v109, v110)))
@[simp] noncomputable def J_slices_symMergeCmpFunc_Lint_impl_eval_1x11 (a1 : Int) (z85 : Int) (v103 : Int) (v113 : List Yt10) (v114 : Int) (v115 : ByteArray) (v116 : Int) (v117 : Int) (v118 : Int) (v119 : Bool) (v120 : List Int) (v121 : Bool) : Option Yt28 :=
 (bif v121 then
 (F_slices_symMergeCmpFunc_Lint_impl_eval_1 v113 a1 v103 (IntKind.i64.wrap z85) v114 v115 v116 v117 v118 v119 v120).bind (fun y122 => some (.go (y122.1, y122.2.1, y122.2.2.1, y122.2.2.2.1, y122.2.2.2.2.1, y122.2.2.2.2.2.1, y122.2.2.2.2.2.2.1, y122.2.2.2.2.2.2.2)))
 else some (.go (v113, v114, v115, v116, v117, v118, v119, v120)))
@[simp] noncomputable def J_slices_symMergeCmpFunc_Lint_impl_eval_1x12 (a2 : Int) (a3 : Int) (z85 : Int) (v103 : Int) (v123 : List Yt10) (v124 : Int) (v125 : ByteArray) (v126 : Int) (v127 : Int) (v128 : Int) (v129 : Bool) (v130 : List Int) (v131 : Bool) : Option Yt9 :=
 (bif v131 then
 (F_slices_symMergeCmpFunc_Lint_impl_eval_1 v123 (IntKind.i64.wrap z85) (IntKind.i64.wrap ((IntKind.i64.wrap ((IntKind.i64.wrap z85) + a2)) - v103)) a3 v124 v125 v126 v127 v128 v129 v130).bind (fun y132 => some (y132.1, y132.2.1, y132.2.2.1, y132.2.2.2.1, y132.2.2.2.2.1, y132.2.2.2.2.2.1, y132.2.2.2.2.2.2.1, y132.2.2.2.2.2.2.2))
 else some (v123, v124, v125, v126, v127, v128, v129, v130))
@[simp] noncomputable def J_slices_symMergeCmpFunc_Lint_impl_eval_1x10 (a2 : Int) (a3 : Int) (z85 : Int) (v103 : Int) (v123 : List Yt10) (v124 : Int) (v125 : ByteArray) (v126 : Int) (v127 : Int) (v128 : Int) (v129 : Bool) (v130 : List Int) : Option Yt9 :=
 joinK ((bif (decide ((IntKind.i64.wrap z85) < (IntKind.i64.wrap ((IntKind.i64.wrap ((IntKind.i64.wrap z85) + a2)) - v103)))) then
 some (.go (decide ((IntKind.i64.wrap ((IntKind.i64.wrap ((IntKind.i64.wrap z85) + a2)) - v103)) < a3)))
 else some (.go false)))
 (fun s => J_slices_symMergeCmpFunc_Lint_impl_eval_1x12 a2 a3 z85 v103 v123 v124 v125 v126 v127 v128 v129 v130 s)
@[simp] noncomputable def J_slices_symMergeCmpFunc_Lint_impl_eval_1x8 (a1 : Int) (a2 : Int) (a3 : Int) (z85 : Int) (v103 : Int) (v113 : List Yt10) (v114 : Int) (v115 : ByteArray) (v116 : Int) (v117 : Int) (v118 : Int) (v119 : Bool) (v120 : List Int) : Option Yt9 :=
 joinK (joinK ((bif (decide (a1 < v103)) then
 some (.go (decide (v103 < (IntKind.i64.wrap z85))))
 else some (.go false)))
 (fun s => J_slices_symMergeCmpFunc_Lint_impl_eval_1x11 a1 z85 v103 v113 v114 v115 v116 v117 v118 v119 v120 s))
 (fun s => J_slices_symMergeCmpFunc_Lint_impl_eval_1x10 a2 a3 z85 v103 s.1 s.2.1 s.2.2.1 s.2.2.2.1 s.2.2.2.2.1 s.2.2.2.2.2.1 s.2.2.2.2.2.2.1 s.2.2.2.2.2.2.2)
@[simp] noncomputable def J_slices_symMergeCmpFunc_Lint_impl_eval_1x7 (a1 : Int) (a2 : Int) (a3 : Int) (v77 : List Yt10) (z85 : Int) (v103 : Int) (v104 : Int) (v105 : ByteArray) (v106 : Int) (v107 : Int) (v108 : Int) (v109 : Bool) (v110 : List Int) : Option Yt9 :=
 joinK (joinK ((bif (decide (v103 < a2)) then
 some (.go (decide (a2 < (IntKind.i64.wrap ((IntKind.i64.wrap ((IntKind.i64.wrap z85) + a2)) - v103)))))
 else some (.go false)))
 (fun s => J_slices_symMergeCmpFunc_Lint_impl_eval_1x9 a2 v77 z85 v103 v104 v105 v106 v107 v108 v109 v110 s))
 (fun s => J_slices_symMergeCmpFunc_Lint_impl_eval_1x8 a1 a2 a3 z85 v103 s.1 s.2.1 s.2.2.1 s.2.2.2.1 s.2.2.2.2.1 s.2.2.2.2.2.1 s.2.2.2.2.2.2.1 s.2.2.2.2.2.2.2)
@[simp] noncomputable def J_slices_symMergeCmpFunc_Lint_impl_eval_1x6 (a1 : Int) (a2 : Int) (a3 : Int) (v77 : List Yt10) (v78 : Int) (v79 : ByteArray) (v80 : Int) (v81 : Int) (v82 : Int) (v83 : Bool) (v84 : List Int) (z85 : Int) (v86 : Int) (v87 : Int) : Option Yt9 :=
 joinK (loopF (fun f s => L_slices_symMergeCmpFunc_Lint_impl_eval_1x4 a2 v77 z85 f s.1 s.2.1 s.2.2.1 s.2.2.2.1 s.2.2.2.2.1 s.2.2.2.2.2.1 s.2.2.2.2.2.2.1 s.2.2.2.2.2.2.2.1 s.2.2.2.2.2.2.2.2) (v86, v87, v78, v79, v80, v81, v82, v83, v84))
 (fun s => J_slices_symMergeCmpFunc_Lint_impl_eval_1x7 a1 a2 a3 v77 z85 s.1 s.2.1 s.2.2.1 s.2.2.2.1 s.2.2.2.2.1 s.2.2.2.2.2.1 s.2.2.2.2.2.2.1 s.2.2.2.2.2.2.2)
@[simp] noncomputable def J_slices_symMergeCmpFunc_Lint_impl_eval_1x3 (a1 : Int) (a2 : Int) (a3 : Int) (v77 : List Yt10) (v78 : Int) (v79 : ByteArray) (v80 : Int) (v81 : Int) (v82 : Int) (v83 : Bool) (v84 : List Int) : Option Yt9 :=
 (shrV .u64 (IntKind.u64.wrap (IntKind.i64.wrap (a1 + a3))) 1).bind (fun z85 => joinK ((bif (decide (a2 > (IntKind.i64.wrap z85))) then
 some (.go ((IntKind.i64.wrap ((IntKind.i64.wrap ((IntKind.i64.wrap z85) + a2)) - a3)), (IntKind.i64.wrap z85)))
 else some (.go (a1, a2))))
 (fun s => J_slices_symMergeCmpFunc_Lint_impl_eval_1x6 a1 a2 a3 v77 v78 v79 v80 v81 v82 v83 v84 z85 s.1 s.2))
@[simp] noncomputable def J_slices_symMergeCmpFunc_Lint_impl_eval_1x0 (a1 : Int) (a2 : Int) (a3 : Int) (v35 : List Yt10) (v36 : Int) (v37 : ByteArray) (v38 : Int) (v39 : Int) (v40 : Int) (v41 : Bool) (v42 : List Int) : Option Yt9 :=
 joinK ((bif ((IntKind.i64.wrap (a3 - a2)) == 1) then
 joinK (loopF (fun f s => L_slices_symMergeCmpFunc_Lint_impl_eval_1x2 a2 v35 f s.1 s.2.1 s.2.2.1 s.2.2.2.1 s.2.2.2.2.1 s.2.2.2.2.2.1 s.2.2.2.2.2.2.1 s.2.2.2.2.2.2.2.1 s.2.2.2.2.2.2.2.2) (a1, a2, v36, v37, v38, v39, v40, v41, v42))
 (fun s => J_slices_symMergeCmpFunc_Lint_impl_eval_1x4 a2 v35 s.1 s.2.1 s.2.2.1 s.2.2.2.1 s.2.2.2.2.1 s.2.2.2.2.2.1 s.2.2.2.2.2.2.1 s.2.2.2.2.2.2.2)
 else some (.go (v35, v36, v37, v38, v39, v40, v41, v42))))
 (fun s => J_slices_symMergeCmpFunc_Lint_impl_eval_1x3 a1 a2 a3 s.1 s.2.1 s.2.2.1 s.2.2.2.1 s.2.2.2.2.1 s.2.2.2.2.2.1 s.2.2.2.2.2.2.1 s.2.2.2.2.2.2.2)
theorem U_slices_symMergeCmpFunc_Lint_impl_eval_1 (a0 : List Yt10) (a1 : Int) (a2 : Int) (a3 : Int) (a4x0x0 : Int) (a4x0x1 : ByteArray) (a4x0x2 : Int) (a4x0x3 : Int) (a4x0x4 : Int) (a4x0x5 : Bool) (a4x0x6 : List Int) : Le (joinK ((bif ((IntKind.i64.wrap (a2 - a1)) == 1) then
 joinK (loopF (fun f s => L_slices_symMergeCmpFunc_Lint_impl_eval_1x0 a0 a1 f s.1 s.2.1 s.2.2.1 s.2.2.2.1 s.2.2.2.2.1 s.2.2.2.2.2.1 s.2.2.2.2.2.2.1 s.2.2.2.2.2.2.2.1 s.2.2.2.2.2.2.2.2) (a2, a3, a4x0x0, a4x0x1, a4x0x2, a4x0x3, a4x0x4, a4x0x5, a4x0x6))
 (fun s => J_slices_symMergeCmpFunc_Lint_impl_eval_1x1 a0 a1 s.1 s.2.1 s.2.2.1 s.2.2.2.1 s.2.2.2.2.1 s.2.2.2.2.2.1 s.2.2.2.2.2.2.1 s.2.2.2.2.2.2.2)
 else some (.go (a0, a4x0x0, a4x0x1, a4x0x2, a4x0x3, a4x0x4, a4x0x5, a4x0x6))))
 (fun s => J_slices_symMergeCmpFunc_Lint_impl_eval_1x0 a1 a2 a3 s.1 s.2.1 s.2.2.1 s.2.2.2.1 s.2.2.2.2.1 s.2.2.2.2.2.1 s.2.2.2.2.2.2.1 s.2.2.2.2.2.2.2)) (F_slices_symMergeCmpFunc_Lint_impl_eval_1 a0 a1 a2 a3 a4x0x0 a4x0x1 a4x0x2 a4x0x3 a4x0x4 a4x0x5 a4x0x6) := callL_le (tt := tt) (FT := FT) (SP := SP) (j := 97) rfl (by kernel_rfl)
noncomputable def L_slices_rotateCmpFunc_Lint_impl_eval_1x0 (a2 : Int) (f0 : Yt25 → Option (Ex Yt9 Yt12)) (v1 : Int) (v2 : Int) (v3 : List Yt10) (v4 : Int) (v5 : ByteArray) (v6 : Int) (v7 : Int) (v8 : Int) (v9 : Bool) (v10 : List Int) : Option (Ex Yt9 Yt12) :=
 (bif (v1 != v2) then
 (bif (decide (v1 > v2)) then
 (F_slices_swapRangeCmpFunc_Lint_impl_eval_1 v3 (IntKind.i64.wrap (a2 - v1)) a2 v2 v4 v5 v6 v7 v8 v9 v10).bind (fun y11 => f0 ((IntKind.i64.wrap (v1 - v2)), v2, y11.1, y11.2.1, y11.2.2.1, y11.2.2.2.1, y11.2.2.2.2.1, y11.2.2.2.2.2.1, y11.2.2.2.2.2.2.1, y11.2.2.2.2.2.2.2))
 else (F_slices_swapRangeCmpFunc_Lint_impl_eval_1 v3 (IntKind.i64.wrap (a2 - v1)) (IntKind.i64.wrap ((IntKind.i64.wrap (a2 + v2)) - v1)) v1 v4 v5 v6 v7 v8 v9 v10).bind (fun y12 => f0 (v1, (IntKind.i64.wrap (v2 - v1)), y12.1, y12.2.1, y12.2.2.1, y12.2.2.2.1, y12.2.2.2.2.1, y12.2.2.2.2.2.1, y12.2.2.2.2.2.2.1, y12.2.2.2.2.2.2.2)))
 else some (.go (v1, v3, v4, v5, v6, v7, v8, v9, v10)))
@[simp] noncomputable def J_slices_rotateCmpFunc_Lint_impl_eval_1x0 (a2 : Int) (v13 : Int) (v14 : List Yt10) (v15 : Int) (v16 : ByteArray) (v17 : Int) (v18 : Int) (v19 : Int) (v20 : Bool) (v21 : List Int) : Option Yt9 :=
 (F_slices_swapRangeCmpFunc_Lint_impl_eval_1 v14 (IntKind.i64.wrap (a2 - v13)) a2 v13 v15 v16 v17 v18 v19 v20 v21).bind (fun y22 => some (y22.1, y22.2.1, y22.2.2.1, y22.2.2.2.1, y22.2.2.2.2.1, y22.2.2.2.2.2.1, y22.2.2.2.2.2.2.1, y22.2.2.2.2.2.2.2))
theorem U_slices_rotateCmpFunc_Lint_impl_eval_1 (a0 : List Yt10) (a1 : Int) (a2 : Int) (a3 : Int) (a4x0x0 : Int) (a4x0x1 : ByteArray) (a4x0x2 : Int) (a4x0x3 : Int) (a4x0x4 : Int) (a4x0x5 : Bool) (a4x0x6 : List Int) : Le (joinK (loopF (fun f s => L_slices_rotateCmpFunc_Lint_impl_eval_1x0 a2 f s.1 s.2.1 s.2.2.1 s.2.2.2.1 s.2.2.2.2.1 s.2.2.2.2.2.1 s.2.2.2.2.2.2.1 s.2.2.2.2.2.2.2.1 s.2.2.2.2.2.2.2.2.1 s.2.2.2.2.2.2.2.2.2) ((IntKind.i64.wrap (a2 - a1)), (IntKind.i64.wrap (a3 - a2)), a0, a4x0x0, a4x0x1, a4x0x2, a4x0x3, a4x0x4, a4x0x5, a4x0x6))
 (fun s => J_slices_rotateCmpFunc_Lint_impl_eval_1x0 a2 s.1 s.2.1 s.2.2.1 s.2.2.2.1 s.2.2.2.2.1 s.2.2.2.2.2.1 s.2.2.2.2.2.2.1 s.2.2.2.2.2.2.2.1 s.2.2.2.2.2.2.2.2)) (F_slices_rotateCmpFunc_Lint_impl_eval_1 a0 a1 a2 a3 a4x0x0 a4x0x1 a4x0x2 a4x0x3 a4x0x4 a4x0x5 a4x0x6) := callL_le (tt := tt) (FT := FT) (SP := SP) (j := 98) rfl (by kernel_rfl)
noncomputable def L_slices_swapRangeCmpFunc_Lint_impl_eval_1x0 (a1 : Int) (a2 : Int) (a3 : Int) (a4x0x0 : Int) (a4x0x1 : ByteArray) (a4x0x2 : Int) (a4x0x3 : Int) (a4x0x4 : Int) (a4x0x5 : Bool) (a4x0x6 : List Int) (f0 : (Int × Yt8) → Option Yt9) (v1 : Int) (v2 : List Yt10) : Option Yt9 :=
 (bif (decide (v1 < a3)) then
 (inx v2.length (IntKind.i64.wrap (a2 + v1))).bind (fun z3 => (ix v2 (IntKind.i64.wrap (a2 + v1))).bind (fun z4 => (inx v2.length (IntKind.i64.wrap (a1 + v1))).bind (fun z5 => (ix v2 (IntKind.i64.wrap (a1 + v1))).bind (fun z6 => (inx v2.length (IntKind.i64.wrap (a1 + v1))).bind (fun z7 => (stx v2 (IntKind.i64.wrap (a1 + v1)) z4).bind (fun z8 => (inx v2.length (IntKind.i64.wrap (a2 + v1))).bind (fun z9 => (stx z8 (IntKind.i64.wrap (a2 + v1)) z6).bind (fun z10 => f0 ((IntKind.i64.wrap (v1 + 1)), z10)))))))))
 else some (v2, a4x0x0, a4x0x1, a4x0x2, a4x0x3, a4x0x4, a4x0x5, a4x0x6))
theorem U_slices_swapRangeCmpFunc_Lint_impl_eval_1 (a0 : List Yt10) (a1 : Int) (a2 : Int) (a3 : Int) (a4x0x0 : Int) (a4x0x1 : ByteArray) (a4x0x2 : Int) (a4x0x3 : Int) (a4x0x4 : Int) (a4x0x5 : Bool) (a4x0x6 : List Int) : Le (loopF (fun f s => L_slices_swapRangeCmpFunc_Lint_impl_eval_1x0 a1 a2 a3 a4x0x0 a4x0x1 a4x0x2 a4x0x3 a4x0x4 a4x0x5 a4x0x6 f s.1 s.2) (0, a0)) (F_slices_swapRangeCmpFunc_Lint_impl_eval_1 a0 a1 a2 a3 a4x0x0 a4x0x1 a4x0x2 a4x0x3 a4x0x4 a4x0x5 a4x0x6) := callL_le (tt := tt) (FT := FT) (SP := SP) (j := 99) rfl (by kernel_rfl)
@[simp] noncomputable def J_impl_CountSamex1 (v2 : Int) (f0 : Yt19 → Option Yt21) (v5 : Int) : Option Yt21 :=
 f0 (v5, (IntKind.i64.wrap (v2 + 1)))
noncomputable def L_impl_CountSamex0 (a0 : List Yt10) (a1 : List Int) (f0 : Yt19 → Option Yt21) (v1 : Int) (v2 : Int) : Option Yt21 :=
 (bif (decide (v2 < (a0.length : Int))) then
 joinK ((ix a0 v2).bind (fun z3 => (F_slices_Equal_Lint z3 a1).bind (fun y4 => (bif y4 then
 some (.go (IntKind.i64.wrap (v1 + 1)))
 else some (.go v1)))))
 (fun s => J_impl_CountSamex1 v2 f0 s)
 else some (.go v1))
@[simp] noncomputable def J_impl_CountSamex0 (v6 : Int) : Option Int :=
 some v6
theorem U_impl_CountSame (a0 : List Yt10) (a1 : List Int) : Le (joinK (loopF (fun f s => L_impl_CountSamex0 a0 a1 f s.1 s.2) (0, 0))
 (fun s => J_impl_CountSamex0 s)) (F_impl_CountSame a0 a1) := callL_le (tt := tt) (FT := FT) (SP := SP) (j := 100) rfl (by kernel_rfl)
noncomputable def L_impl_ownRowsx0 (a0 : List Yt10) (f0 : Yt14 → Option Yt18) (v1 : List Yt10) (v2 : Int) : Option Yt18 :=
 (bif (decide (v2 < (a0.length : Int))) then
 (ix a0 v2).bind (fun z3 => (F_slices_Clone_Lint z3).bind (fun y4 => (apx v1 ([y4])).bind (fun z5 => f0 (z5, (IntKind.i64.wrap (v2 + 1))))))
 else some (.go v1))
@[simp] noncomputable def J_impl_ownRowsx0 (v6 : List Yt10) : Option Yt8 :=
 some v6
theorem U_impl_ownRows (a0 : List Yt10) : Le (joinK (loopF (fun f s => L_impl_ownRowsx0 a0 f s.1 s.2) ([], 0))
 (fun s => J_impl_ownRowsx0 s)) (F_impl_ownRows a0) := callL_le (tt := tt) (FT := FT) (SP := SP) (j := 101) rfl (by kernel_rfl)
theorem U_slices_Clone_Lint (a0 : List Int) : Le ((nilx a0.isEmpty
 (some ([]))
 ((apx ([]) a0).bind (fun z1 => some z1)))) (F_slices_Clone_Lint a0) := callL_le (tt := tt) (FT := FT) (SP := SP) (j := 102) rfl (by kernel_rfl)
@[simp] noncomputable def J_impl_RowTextx1 (v2 : Int) (f0 : ((List ByteArray) × Int) → Option (Ex ByteArray (List ByteArray))) (v7 : List ByteArray) : Option (Ex ByteArray (List ByteArray)) :=
 f0 (v7, (IntKind.i64.wrap (v2 + 1)))
noncomputable def L_impl_RowTextx0 (a0 : List Int) (f0 : ((List ByteArray) × Int) → Option (Ex ByteArray (List ByteArray))) (v1 : List ByteArray) (v2 : Int) : Option (Ex ByteArray (List ByteArray)) :=
 (bif (decide (v2 < (a0.length : Int))) then
 joinK ((ix a0 v2).bind (fun z3 => (bif (z3 == (-2000000)) then
 (apx v1 ([(⟨#[45]⟩ : ByteArray)])).bind (fun z4 => some (.go z4))
 else (F_impl_number z3).bind (fun y5 => (apx v1 ([y5])).bind (fun z6 => some (.go z6))))))
 (fun s => J_impl_RowTextx1 v2 f0 s)
 else some (.go v1))
@[simp] noncomputable def J_impl_RowTextx0 (v8 : List ByteArray) : Option ByteArray :=
 (F_strings_Join v8 (⟨#[44]⟩ : ByteArray)).bind (fun y9 => some y9.1)
theorem U_impl_RowText (a0 : List Int) : Le ((bif ((a0.length : Int) == 0) then
 some (⟨#[40, 41]⟩ : ByteArray)
 else joinK (loopF (fun f s => L_impl_RowTextx0 a0 f s.1 s.2) ([], 0))
 (fun s => J_impl_RowTextx0 s))) (F_impl_RowText a0) := callL_le (tt := tt) (FT := FT) (SP := SP) (j := 103) rfl (by kernel_rfl)
theorem U_impl_number (a0 : Int) : Le ((F_strconv_Itoa a0).bind (fun y1 => some y1)) (F_impl_number a0) := callL_le (tt := tt) (FT := FT) (SP := SP) (j := 104) rfl (by kernel_rfl)
theorem U_strconv_Itoa (a0 : Int) : Le (itoaF a0) (F_strconv_Itoa a0) := callL_sp (tt := tt) (FT := FT) (SP := SP) (j := 105) (v := (show InVals (FT 105) from ((a0, ()), (())))) (f := fun v => itoaF v.1.1) rfl
theorem U_strings_Join (a0 : List ByteArray) (a1 : ByteArray) : Le (joinF a0 a1) (F_strings_Join a0 a1) := callL_sp (tt := tt) (FT := FT) (SP := SP) (j := 106) (v := (show InVals (FT 106) from ((a0, a1, ()), (())))) (f := fun v => joinF v.1.1 v.1.2.1) rfl
noncomputable def L_laws_eqTableSx0 (a0 : List STable) (a1 : List STable) (f0 : Yt20 → Option Yt13) (v1 : Bool) (v2 : Int) : Option Yt13 :=
 (bif (decide (v2 < (a0.length : Int))) then
 (ix a0 v2).bind (fun z3 => (ix a1 v2).bind (fun z4 => (F_laws_eqTable z3 z4).bind (fun y5 => (bif (!y5) then
 some (.ret false)
 else f0 (v1, (IntKind.i64.wrap (v2 + 1)))))))
 else some (.go v1))
@[simp] noncomputable def J_laws_eqTableSx0 (v6 : Bool) : Option Bool :=
 some true
theorem U_laws_eqTableS (a0 : List STable) (a1 : List STable) : Le ((bif ((a0.length : Int) != (a1.length : Int)) then
 some false
 else joinK (loopF (fun f s => L_laws_eqTableSx0 a0 a1 f s.1 s.2) (false, 0))
 (fun s => J_laws_eqTableSx0 s))) (F_laws_eqTableS a0 a1) := callL_le (tt := tt) (FT := FT) (SP := SP) (j := 107) rfl (by kernel_rfl)
theorem U_laws_eqTable (a0 : STable) (a1 : STable) : Le ((bif (!(a0.1.toList == a1.1.toList)) then
 some false
 else (bif (a0.2.1 != a1.2.1) then
 some false
 else some true))) (F_laws_eqTable a0 a1) := callL_le (tt := tt) (FT := FT) (SP := SP) (j := 108) rfl (by kernel_rfl)
noncomputable def L_laws_eqNodeSx0 (a0 : List SNode) (a1 : List SNode) (f0 : Yt20 → Option Yt13) (v1 : Bool) (v2 : Int) : Option Yt13 :=
 (bif (decide (v2 < (a0.length : Int))) then
 (ix a0 v2).bind (fun z3 => (ix a1 v2).bind (fun z4 => (F_laws_eqNode z3 z4).bind (fun y5 => (bif (!y5) then
 some (.ret false)
 else f0 (v1, (IntKind.i64.wrap (v2 + 1)))))))
 else some (.go v1))
@[simp] noncomputable def J_laws_eqNodeSx0 (v6 : Bool) : Option Bool :=
 some true
theorem U_laws_eqNodeS (a0 : List SNode) (a1 : List SNode) : Le ((bif ((a0.length : Int) != (a1.length : Int)) then
 some false
 else joinK (loopF (fun f s => L_laws_eqNodeSx0 a0 a1 f s.1 s.2) (false, 0))
 (fun s => J_laws_eqNodeSx0 s))) (F_laws_eqNodeS a0 a1) := callL_le (tt := tt) (FT := FT) (SP := SP) (j := 109) rfl (by kernel_rfl)
theorem U_laws_eqNode (a0 : SNode) (a1 : SNode) : Le ((bif (a0.1 != a1.1) then
 some false
 else (bif (!(a0.2.1.toList == a1.2.1.toList)) then
 some false
 else (bif (a0.2.2.1 != a1.2.2.1) then
 some false
 else (bif (a0.2.2.2.1 != a1.2.2.2.1) then
 some false
 else (bif (a0.2.2.2.2.1 != a1.2.2.2.2.1) then
 some false
 else (bif (a0.2.2.2.2.2.1 != a1.2.2.2.2.2.1) then
 some false
 else (F_laws_eqIntS a0.2.2.2.2.2.2.1 a1.2.2.2.2.2.2.1).bind (fun y1 => (bif (!y1) then
 some false
 else some true))))))))) (F_laws_eqNode a0 a1) := callL_le (tt := tt) (FT := FT) (SP := SP) (j := 110) rfl (by kernel_rfl)
noncomputable def L_laws_eqIntSx0 (a0 : List Int) (a1 : List Int) (f0 : Yt20 → Option Yt13) (v1 : Bool) (v2 : Int) : Option Yt13 :=
 (bif (decide (v2 < (a0.length : Int))) then
 (ix a0 v2).bind (fun z3 => (ix a1 v2).bind (fun z4 => (bif (z3 != z4) then
 some (.ret false)
 else f0 (v1, (IntKind.i64.wrap (v2 + 1))))))
 else some (.go v1))
@[simp] noncomputable def J_laws_eqIntSx0 (v5 : Bool) : Option Bool :=
 some true
theorem U_laws_eqIntS (a0 : List Int) (a1 : List Int) : Le ((bif ((a0.length : Int) != (a1.length : Int)) then
 some false
 else joinK (loopF (fun f s => L_laws_eqIntSx0 a0 a1 f s.1 s.2) (false, 0))
 (fun s => J_laws_eqIntSx0 s))) (F_laws_eqIntS a0 a1) := callL_le (tt := tt) (FT := FT) (SP := SP) (j := 111) rfl (by kernel_rfl)
end Go.Proofs.YtlebkomgiibknaaGreatDoorX
