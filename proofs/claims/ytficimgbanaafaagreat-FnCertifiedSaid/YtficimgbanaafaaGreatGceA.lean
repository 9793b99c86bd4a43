/- Printed: for each function that the statement reaches, a plain function, and that it is what the program's function answers. -/
import Derived.Test.YtficimgbanaafaaGreatProg
import Derived.Test.YtficimgbanaafaaGreatTrceD
set_option linter.all false
namespace Go.Proofs.YtficimgbanaafaaGreatX
open Go Go.Proofs Go.Proofs.YtficimgbanaafaaGreatT
set_option maxRecDepth 100000
set_option linter.all false
abbrev STable := ByteArray × Int × Unit
abbrev SNode := Int × ByteArray × Int × Int × Int × Bool × (List Int) × Unit
abbrev SStep := Int × Int × Unit
abbrev Sl01Cur := (List Int) × SStep
abbrev Sstream := Int × Unit
abbrev Yv1 : Ty := .int .i64
abbrev Yv2 : Ty := .sl 77 (.pr .str (.pr Yv1 .un))
abbrev Yv3 : Ty := .sl 3 Yv1
abbrev Yv0 : Ty := .pr Yv1 (.pr .str (.pr Yv1 (.pr Yv1 (.pr Yv1 (.pr .bool (.pr Yv3 .un))))))
abbrev Yv4 : Ty := .sl 52 Yv0
abbrev Yv5 : Ty := .sl 5 (.int .u8)
abbrev Yv6 : Ty := .sl 50 Yv3
abbrev Yv7 : Ty := .pr Yv1 (.pr Yv1 .un)
abbrev Yv8 : Ty := .sl 27 Yv7
abbrev Yt10 : Type := List Int
abbrev Yt11 : Type := List Yt10
abbrev Yt9 : Type := Yt11 × Int × ByteArray × Int × Int × Int × Bool × Yt10
abbrev Yt13 : Type := Int × Yt11 × Int × ByteArray × Int × Int × Int × Bool × Yt10
abbrev Yt14 : Type := (List SNode) × Yt10 × Int × Int
abbrev Yt16 : Type := (List SNode) × Int × Yt10 × Int × Int
abbrev Yt18 : Type := Ex Bool Bool
abbrev Yt19 : Type := Int × Int × ByteArray × Int × Int × Int × Bool × Yt10 × Yt10 × Int × Int
abbrev Yt20 : Type := Int × Int × ByteArray × Int × Int × Int × Bool × Yt10
abbrev Yt21 : Type := Ex Bool (Int × ByteArray × Int × Int × Int × Bool × Yt10 × Bool)
abbrev Yt22 : Type := (List SNode) × Bool
abbrev Yt12 : Type := Ex Yt22 ((List SNode) × Bool × Int × ByteArray × Int × Int × Int × Bool × Yt10 × Int × ByteArray × Int × Int × Int × Bool × Yt10)
abbrev Yt17 : Type := Ex Yt22 ((List SNode) × Bool × (List SNode))
abbrev Yt23 : Type := Int × Int
abbrev Yt24 : Type := List SStep
abbrev Yt25 : Type := Yt11 × Bool
abbrev Yt26 : Type := Ex Int Int
abbrev Yt27 : Type := Ex (List SNode) (List SNode)
abbrev Yt28 : Type := Int × ByteArray × Int × Int × Int × Bool × Yt10 × Yt10 × Int × Int
abbrev Yt29 : Type := (List SNode) × Int
abbrev Yt30 : Type := (List STable) × Yt10 × Int × Int
abbrev Yt31 : Type := Bool × Int
abbrev Yt32 : Type := Ex ((List SNode) × Yt10 × Bool) ((List SNode) × Yt10)
abbrev Yt33 : Type := Yt11 × Int
abbrev Yt34 : Type := Ex Yt10 Yt10
abbrev Yt35 : Type := Int × Int × Yt11 × Int × ByteArray × Int × Int × Int × Bool × Yt10
abbrev Yt36 : Type := Yt10 × Int × Int
abbrev Yt37 : Type := Int × Int × Int × ByteArray × Int × Int × Int × Bool × Yt10
abbrev Yt38 : Type := Ex Yt29 ((List SNode) × Int × (List SNode))
abbrev Yt39 : Type := Ex Yt9 Yt9
abbrev Yt40 : Type := Yt24 × Yt10 × Int × Int
abbrev Yt41 : Type := List Yt11
abbrev Yt15 : Type := Ex (Ex (Ex Yt41 Yt41) (Yt41 × Int)) Yt33
abbrev Yt42 : Type := Yt10 × Int
abbrev Yt43 : Type := (List STable) × (List SNode) × (List SNode) × Yt24
abbrev Yt44 : Type := Yt10 × Int × Int × (List STable) × (List SNode)
abbrev Yt45 : Type := Ex Yt23 (Int × Int × Int × Int)
abbrev Yt46 : Type := Int × ByteArray
abbrev Yt47 : Type := Int × Yt10 × Int × Int
abbrev Yl0 : LT := ⟨false, false, Yv1⟩
abbrev Yl1 : LT := ⟨false, false, .bool⟩
abbrev Yl2 : LT := ⟨false, false, .str⟩
abbrev Yl3 : LT := ⟨true, true, Yv3⟩
abbrev Yl4 : LT := ⟨true, true, Yv4⟩
abbrev Yl5 : LT := ⟨true, false, Yv6⟩
abbrev Yl6 : LT := ⟨false, false, Yv5⟩
abbrev Yl7 : LT := ⟨false, false, Yv3⟩
abbrev Yl8 : LT := ⟨true, true, Yv1⟩
abbrev Yl9 : LT := ⟨true, true, Yv8⟩
abbrev Yl10 : LT := ⟨true, true, Yv6⟩
abbrev Yl11 : LT := ⟨true, false, Yv4⟩
abbrev Yl12 : LT := ⟨true, true, .bool⟩
abbrev Yl13 : LT := ⟨true, true, .str⟩
abbrev Yl14 : LT := ⟨true, true, Yv2⟩
def ttL : List (Nat × Ty) := [(3, Yv1),
 (4, .bool),
 (5, (.int .u8)),
 (9, .str),
 (22, Yv5),
 (24, Yv2),
 (25, Yv4),
 (27, Yv7),
 (35, (.sl 38 Yv6)),
 (38, Yv6),
 (44, Yv8),
 (50, Yv3),
 (52, Yv0),
 (67, (.sl 25 Yv4)),
 (77, (.pr .str (.pr Yv1 .un))),
 (123, (.pr Yv5 Yv7)),
 (125, (.sl 9 .str)),
 (136, (.pr Yv1 .un)),
 (143, (.int .u64))]
def tt (T : TypeId) : Option Ty := lkT ttL T
theorem tt_ok : TTok Tryz.prog tt := lkT_ok (by kernel_rfl)
noncomputable def i_0 : Inst := { f := 5, fn := Tryz.f5, n := 79, pds := [.rd Yv5], caps := [], res := [Yl1], h := { al := [51, 57, 67, 68, 74, 75], ca := [(15, 1), (18, 2), (27, 49), (33, 87), (45, 91), (52, 92), (58, 92), (69, 93), (76, 127)], code := (.two .nil (.two .nil (.two .nil (.two .nil (.two .nil (.two .nil (.two .nil (.join ⟨[8], [(8, .v Yl3)]⟩ (.two .nil (.loop ⟨[8, 9], [(8, .v Yl3), (9, .v Yl0)]⟩ .nil)) (.two .nil (.two .nil (.join ⟨[2], [(2, .v Yl1)]⟩ .nil .nil))))))))))) } }
noncomputable def i_1g : Inst := { f := 6, fn := Tryz.f6, n := 6, pds := [.rd Yv5], caps := [], res := [Yl1], h := { code := .nil } }
noncomputable def i_2f : Inst := { f := 25, fn := Tryz.f25, n := 46, pds := [.rd Yv5], caps := [], res := [⟨false, false, Yv2⟩, ⟨false, false, Yv4⟩, ⟨false, false, Yv4⟩, ⟨false, false, Yv8⟩], h := { al := [27, 40], tk := [36], hs := [19, 20], ca := [(14, 3), (22, 7), (23, 34), (28, 48), (32, 7), (38, 6), (41, 33)], code := (.two .nil (.two .nil (.two .nil (.two .nil (.join ⟨[6, 9, 15, 18, 21, 27], [(6, .fix (.eq 15)), (9, .v Yl9), (15, .bx 123 [Yl6, Yl0, Yl0])]⟩ .nil .nil))))) } }
noncomputable def i_3i : Inst := { f := 29, fn := Tryz.f29, n := 28, pds := [.rd Yv5], caps := [], res := [Yl6, Yl0, Yl0, ⟨true, false, Yv2⟩, Yl11], h := { al := [23], ca := [(9, 4), (10, 5), (12, 6), (14, 9), (18, 13), (19, 19), (21, 6), (24, 33)], code := (.two .nil (.two .nil (.two .nil (.join ⟨[5, 6, 9], [(5, .fix (.eq 9)), (6, .v Yl14), (9, .bx 123 [Yl6, Yl0, Yl0])]⟩ .nil .nil)))) }, rb := some (123, 3) }
noncomputable def i_2x : Inst := { f := 68, fn := Tryz.f68, n := 32, pds := [.rd Yv5], caps := [], res := [Yl6, Yl0, Yl0], h := { code := (.two .nil (.two .nil (.join ⟨[3], [(3, .v Yl0)]⟩ (.two .nil (.loop ⟨[3, 4], [(3, .v Yl0), (4, .v Yl0)]⟩ (.two (.join ⟨[], [(15, .v Yl1)]⟩ .nil .nil) .nil))) .nil))) }, rb := some (123, 3) }
noncomputable def i_3f : Inst := { f := 69, fn := Tryz.f69, n := 5, pds := [], caps := [], res := [Yl14], h := { code := .nil } }
noncomputable def i_30 : Inst := { f := 64, fn := Tryz.f64, n := 9, pds := [.pt true 123 [Yl6, Yl0, Yl0], .rd Yv1], caps := [], res := [Yl1], h := { ca := [(7, 7)], code := .nil } }
noncomputable def i_2r : Inst := { f := 62, fn := Tryz.f62, n := 31, pds := [.pt true 123 [Yl6, Yl0, Yl0], .rd Yv1], caps := [], res := [Yl0], h := { ca := [(13, 8), (17, 8), (19, 8), (21, 8)], code := .nil } }
noncomputable def i_2s : Inst := { f := 111, fn := Tryz.f111, n := 58, pds := [.pt true 123 [Yl6, Yl0, Yl0]], caps := [], res := [Yl0], h := { code := (.two .nil (.two .nil (.two .nil (.join ⟨[0, 3, 4, 5, 6, 7, 11, 12, 13, 14, 15, 18, 19, 20, 58], [(3, .v Yl0), (58, .bx 123 [Yl6, Yl0, Yl0])]⟩ .nil .nil)))) } }
noncomputable def i_3d : Inst := { f := 70, fn := Tryz.f70, n := 52, pds := [.pt true 123 [Yl6, Yl0, Yl0]], caps := [], res := [Yl14], h := { al := [14, 23, 37], el := [19, 28], tk := [34], sw := [43], ca := [(5, 5), (7, 6), (9, 7), (11, 7), (18, 10), (27, 11), (40, 7), (46, 12)], code := (.two .nil (.two .nil (.join ⟨[0, 3, 52], [(3, .v Yl14), (52, .bx 123 [Yl6, Yl0, Yl0])]⟩ (.two .nil (.two (.two .nil (.two .nil (.two .nil (.two .nil (.two .nil (.two .nil (.two .nil (.two .nil (.two .nil (.two (.loop ⟨[0, 3, 6, 8, 10, 52], [(0, .fix (.eq 52)), (3, .v Yl14), (52, .bx 123 [Yl6, Yl0, Yl0])]⟩ .nil) .nil)))))))))) .nil)) .nil))) } }
noncomputable def i_31 : Inst := { f := 112, fn := Tryz.f112, n := 12, pds := [.pt true 123 [Yl6, Yl0, Yl0], .rd Yv3], caps := [], res := [Yl0], h := { ca := [(9, 7)], code := .nil } }
noncomputable def i_32 : Inst := { f := 115, fn := Tryz.f115, n := 12, pds := [.pt true 123 [Yl6, Yl0, Yl0], .rd (.sl 9 .str)], caps := [], res := [Yl2], h := { ca := [(9, 7)], code := .nil } }
noncomputable def i_2y : Inst := { f := 116, fn := Tryz.f116, n := 31, pds := [.rd Yv1], caps := [], res := [Yl2], h := { code := (.two .nil (.two .nil (.two .nil (.two .nil (.join ⟨[0, 3], [(3, .v Yl2)]⟩ (.loop ⟨[0, 3], [(0, .v Yl0), (3, .v Yl2)]⟩ (.two .nil (.two .nil (.join ⟨[5], [(5, .v Yl0)]⟩ .nil .nil)))) .nil))))) } }
noncomputable def i_3j : Inst := { f := 72, fn := Tryz.f72, n := 85, pds := [.pt true 123 [Yl6, Yl0, Yl0], .rd Yv5], caps := [], res := [Yl4], h := { tk := [58, 79], ca := [(14, 14), (15, 7), (17, 15), (21, 7), (29, 10), (37, 7), (40, 7), (46, 7), (51, 7), (61, 7), (72, 7), (77, 7), (83, 16)], code := (.two .nil (.two .nil (.join ⟨[0, 5, 6, 11, 12, 85], [(5, .v Yl4), (85, .bx 123 [Yl6, Yl0, Yl0])]⟩ (.two .nil (.loop ⟨[0, 5, 6, 7, 11, 12, 20, 85], [(0, .fix (.eq 85)), (5, .v Yl4), (6, .v Yl0), (7, .v Yl0), (85, .bx 123 [Yl6, Yl0, Yl0])]⟩ (.two .nil (.join ⟨[0, 5, 6, 85], [(0, .fix (.eq 85)), (5, .v Yl4), (6, .v Yl0), (85, .bx 123 [Yl6, Yl0, Yl0])]⟩ (.two .nil (.join ⟨[0, 6, 8, 27, 85], [(0, .fix (.eq 85)), (6, .v Yl0), (8, .bx 52 [Yl8, Yl13, Yl0, Yl0, Yl0, Yl12, Yl3]), (85, .bx 123 [Yl6, Yl0, Yl0])]⟩ (.two .nil (.two .nil (.two .nil (.two .nil (.two (.join ⟨[0, 8, 27, 31, 85], [(0, .fix (.eq 85)), (8, .bx 52 [Yl8, Yl13, Yl8, Yl8, Yl8, Yl12, Yl3]), (85, .bx 123 [Yl6, Yl0, Yl0])]⟩ (.two .nil (.loop ⟨[0, 8, 9, 27, 31, 50, 85], [(0, .fix (.eq 85)), (8, .bx 52 [Yl8, Yl13, Yl8, Yl8, Yl8, Yl12, Yl3]), (9, .v Yl0), (85, .bx 123 [Yl6, Yl0, Yl0])]⟩ .nil)) .nil) .nil))))) .nil)) .nil)))) .nil))) } }
noncomputable def i_33 : Inst := { f := 119, fn := Tryz.f119, n := 15, pds := [.rd Yv5, .rd Yv1], caps := [], res := [Yl0], h := { code := .nil } }
noncomputable def i_37 : Inst := { f := 118, fn := Tryz.f118, n := 178, pds := [.pt true 123 [Yl6, Yl0, Yl0], .rd Yv1], caps := [], res := [Yl4, Yl0], h := { al := [35, 41], tk := [68, 151, 172], ca := [(25, 10), (32, 7), (51, 15), (58, 15), (63, 7), (66, 7), (73, 16), (83, 15), (90, 15), (101, 16), (107, 16), (113, 16), (119, 15), (129, 7), (132, 7), (138, 7), (144, 7), (154, 7), (165, 7), (170, 7), (176, 16)], code := (.two .nil (.two .nil (.join ⟨[6], [(6, .v Yl0)]⟩ .nil (.two (.two .nil (.two .nil (.two .nil (.two .nil (.two .nil (.two .nil (.two (.two .nil (.two .nil (.join ⟨[15, 16, 17], [(15, .v Yl4), (16, .v Yl0), (17, .v Yl4)]⟩ .nil .nil))) .nil))))))) (.two .nil (.two .nil (.join ⟨[0, 20, 21, 23, 116, 178], [(20, .v Yl0), (21, .bx 52 [Yl8, Yl13, Yl0, Yl0, Yl0, Yl12, Yl3]), (178, .bx 123 [Yl6, Yl0, Yl0])]⟩ (.two .nil (.two .nil (.two .nil (.two .nil (.two (.join ⟨[0, 21, 23, 116, 178], [(21, .bx 52 [Yl8, Yl13, Yl8, Yl8, Yl8, Yl12, Yl3]), (178, .bx 123 [Yl6, Yl0, Yl0])]⟩ (.two .nil (.loop ⟨[0, 21, 22, 23, 116, 143, 178], [(0, .fix (.eq 178)), (21, .bx 52 [Yl8, Yl13, Yl8, Yl8, Yl8, Yl12, Yl3]), (22, .v Yl0), (178, .bx 123 [Yl6, Yl0, Yl0])]⟩ .nil)) .nil) .nil))))) .nil))))))) } }
noncomputable def i_39 : Inst := { f := 36, fn := Tryz.f36, n := 20, pds := [.rd (.sl 25 Yv4)], caps := [], res := [Yl4], h := { ca := [(17, 17)], code := (.two .nil (.two .nil (.join ⟨[3], [(3, .v Yl4)]⟩ (.two .nil (.loop ⟨[3, 4], [(3, .v Yl4), (4, .v Yl0)]⟩ .nil)) .nil))) } }
noncomputable def i_36 : Inst := { f := 31, fn := Tryz.f31, n := 37, pds := [.rd Yv4], caps := [], res := [Yl4], h := { tk := [33], no := true, ca := [(30, 18)], code := (.two .nil (.two .nil (.join ⟨[3], [(3, .v Yl4)]⟩ (.two .nil (.loop ⟨[3, 4], [(3, .v Yl4), (4, .v Yl0)]⟩ (.two .nil (.two (.two .nil (.two .nil (.join ⟨[5, 17], [(5, .bx 52 [Yl0, Yl2, Yl0, Yl0, Yl0, Yl1, Yl3])]⟩ .nil .nil))) .nil)))) .nil))) } }
noncomputable def i_2t : Inst := { f := 74, fn := Tryz.f74, n := 20, pds := [.rd Yv3], caps := [], res := [Yl3], h := { code := (.two .nil (.two .nil (.join ⟨[3], [(3, .v Yl3)]⟩ (.two .nil (.loop ⟨[3, 4], [(3, .v Yl3), (4, .v Yl0)]⟩ .nil)) .nil))) } }
noncomputable def i_3k : Inst := { f := 71, fn := Tryz.f71, n := 19, pds := [.pt true 123 [Yl6, Yl0, Yl0], .hv true 52 Yv0], caps := [], res := [Yl4], h := { al := [11], ca := [(9, 6), (12, 20)], code := (.two .nil (.join ⟨[0, 4, 19], [(4, .v Yl4), (19, .bx 123 [Yl6, Yl0, Yl0])]⟩ .nil .nil)) } }
noncomputable def i_2g : Inst := { f := 117, fn := Tryz.f117, n := 47, pds := [.rd Yv4], caps := [], res := [Yl4, Yl3, Yl1], h := { al := [15, 20, 27, 34, 38, 40], el := [36, 43], ca := [(9, 21), (12, 17), (24, 32)], code := (.two .nil (.two .nil (.two .nil (.two .nil (.join ⟨[5, 6], [(5, .v Yl4), (6, .v Yl3)]⟩ (.two .nil (.loop ⟨[5, 6, 7], [(5, .v Yl4), (6, .v Yl3), (7, .v Yl0)]⟩ (.two .nil (.join ⟨[5, 6, 15], [(5, .v Yl4), (6, .v Yl3)]⟩ .nil .nil)))) .nil))))) } }
noncomputable def i_2e : Inst := { f := 143, fn := Tryz.f143, n := 11, pds := [.rd Yv4], caps := [], res := [Yl1], h := { ca := [(4, 22), (7, 30)], code := (.two .nil (.join ⟨[2], [(2, .v Yl1)]⟩ .nil .nil)) } }
noncomputable def i_2i : Inst := { f := 37, fn := Tryz.f37, n := 31, pds := [.rd Yv4], caps := [], res := [Yl1], h := { ca := [(8, 23), (20, 24), (24, 28)], code := (.two .nil (.two .nil (.join ⟨[2], [(2, .v Yl1)]⟩ (.two .nil (.loop ⟨[2, 3], [(2, .v Yl1), (3, .v Yl0)]⟩ .nil)) .nil))) } }
noncomputable def i_2v : Inst := { f := 32, fn := Tryz.f32, n := 15, pds := [.rd Yv1, .rd Yv1, .rd Yv1], caps := [], res := [Yl1], h := { code := (.two .nil (.join ⟨[6], [(6, .v Yl1)]⟩ .nil .nil)) } }
noncomputable def i_2h : Inst := { f := 78, fn := Tryz.f78, n := 186, pds := [.rd Yv0], caps := [], res := [Yl1], h := { ca := [(39, 23), (49, 25), (69, 26), (73, 23), (78, 27), (109, 26), (114, 23), (134, 26), (138, 26), (149, 26), (168, 23)], code := (.two .nil (.two (.join ⟨[], [(42, .v Yl1)]⟩ .nil .nil) (.join ⟨[2], [(2, .v Yl1)]⟩ (.two .nil (.two .nil (.two (.join ⟨[2], [(2, .v Yl1)]⟩ .nil .nil) (.two .nil (.two (.join ⟨[2], [(2, .v Yl1)]⟩ .nil .nil) (.two .nil (.two (.join ⟨[2], [(2, .v Yl1)]⟩ (.two .nil (.loop ⟨[2, 3], [(2, .v Yl1), (3, .v Yl0)]⟩ .nil)) (.join ⟨[2], [(2, .v Yl1)]⟩ .nil .nil)) (.two .nil (.two (.join ⟨[2], [(2, .v Yl1)]⟩ .nil .nil) (.two .nil (.two (.join ⟨[2], [(2, .v Yl1)]⟩ .nil .nil) (.two .nil (.two (.join ⟨[2], [(2, .v Yl1)]⟩ .nil .nil) (.join ⟨[], [(170, .v Yl1)]⟩ .nil (.two (.join ⟨[2], [(2, .v Yl1)]⟩ .nil .nil) .nil))))))))))))))) .nil))) } }
noncomputable def i_2q : Inst := { f := 92, fn := Tryz.f92, n := 41, pds := [.rd .str], caps := [], res := [Yl1], h := { ca := [(6, 23)], code := (.two .nil (.two (.join ⟨[], [(12, .v Yl1)]⟩ .nil .nil) (.join ⟨[2], [(2, .v Yl1)]⟩ (.two .nil (.loop ⟨[2, 3], [(2, .v Yl1), (3, .v Yl0)]⟩ (.two .nil (.two (.join ⟨[], [(40, .v Yl1)]⟩ .nil .nil) .nil)))) .nil))) } }
noncomputable def i_35 : Inst := { f := 121, fn := Tryz.f121, n := 5, pds := [.rd Yv1], caps := [], res := [Yl1], h := { ca := [(4, 23)], code := .nil } }
noncomputable def i_2z : Inst := { f := 122, fn := Tryz.f122, n := 5, pds := [.rd Yv1], caps := [], res := [Yl1], h := { ca := [(4, 23)], code := .nil } }
noncomputable def i_38 : Inst := { f := 35, fn := Tryz.f35, n := 51, pds := [.rd Yv4, .rd Yv1, .rd Yv1], caps := [], res := [Yl0, Yl0], h := { ca := [(29, 29), (38, 28)], code := (.two .nil (.two (.join ⟨[], [(20, .v Yl1)]⟩ .nil .nil) (.two .nil (.two .nil (.join ⟨[6, 7, 8, 9], [(6, .v Yl0), (7, .v Yl0), (8, .v Yl0), (9, .v Yl0)]⟩ (.two .nil (.loop ⟨[6, 7, 8, 9, 10], [(6, .v Yl0), (7, .v Yl0), (8, .v Yl0), (9, .v Yl0), (10, .v Yl0)]⟩ (.two .nil (.join ⟨[6, 7, 8, 9], [(6, .v Yl0), (7, .v Yl0), (8, .v Yl0), (9, .v Yl0)]⟩ .nil .nil)))) .nil))))) } }
noncomputable def i_2c : Inst := { f := 77, fn := Tryz.f77, n := 15, pds := [.rd Yv1], caps := [], res := [Yl0], h := { code := (.two .nil (.two (.two .nil (.two .nil (.two .nil (.join ⟨[], [(6, .v Yl1)]⟩ .nil (.two .nil (.join ⟨[], [(9, .v Yl1)]⟩ .nil .nil)))))) .nil)) } }
noncomputable def i_2m : Inst := { f := 149, fn := Tryz.f149, n := 45, pds := [.rd Yv4], caps := [], res := [Yl3], h := { al := [35], ca := [(8, 22), (37, 31)], code := (.two .nil (.two .nil (.two .nil (.join ⟨[3], [(3, .v Yl3)]⟩ (.two .nil (.loop ⟨[3, 4], [(3, .v Yl3), (4, .v Yl0)]⟩ (.two .nil (.join ⟨[3], [(3, .v Yl3)]⟩ (.two .nil (.loop ⟨[3, 5], [(3, .v Yl3), (5, .v Yl0)]⟩ (.two .nil (.join ⟨[3], [(3, .v Yl3)]⟩ (.join ⟨[], [(39, .v Yl1)]⟩ .nil .nil) .nil)))) .nil)))) .nil)))) } }
noncomputable def i_2u : Inst := { f := 106, fn := Tryz.f106, n := 18, pds := [.rd Yv3, .rd Yv1], caps := [], res := [Yl1], h := { code := (.two .nil (.join ⟨[4], [(4, .v Yl1)]⟩ (.two .nil (.loop ⟨[4, 5], [(4, .v Yl1), (5, .v Yl0)]⟩ .nil)) .nil)) } }
noncomputable def i_3h : Inst := { f := 144, fn := Tryz.f144, n := 16, pds := [.rd Yv0], caps := [], res := [Yl1], h := { code := (.two .nil (.join ⟨[2], [(2, .v Yl1)]⟩ .nil .nil)) } }
noncomputable def i_34 : Inst := { f := 65, fn := Tryz.f65, n := 82, pds := [.pt true 123 [Yl6, Yl0, Yl0], .hv true 52 Yv0], caps := [], res := [Yl11], h := { al := [10, 16, 23, 32, 41, 50, 70, 72], el := [28, 37, 46, 52, 59, 74], tk := [67], nn := [76], sw := [56], ca := [(7, 6), (18, 7), (20, 7), (26, 7), (36, 10), (45, 10)], code := (.two .nil (.two (.join ⟨[0, 82], [(0, .fix (.eq 82)), (13, .v Yl1), (82, .bx 123 [Yl6, Yl0, Yl0])]⟩ .nil .nil) .nil)) } }
noncomputable def i_3m : Inst := { f := 61, fn := Tryz.f61, n := 37, pds := [.pt true 123 [Yl6, Yl0, Yl0], .rd Yv2, .rd Yv4, .rd Yv1], caps := [], res := [Yl9], h := { hs := [28], ca := [(23, 35), (28, 47)], code := (.two .nil (.two .nil (.join ⟨[0, 2, 9, 37], [(9, .v Yl9), (37, .bx 123 [Yl6, Yl0, Yl0])]⟩ (.two .nil (.loop ⟨[0, 2, 9, 10, 37], [(0, .fix (.eq 37)), (2, .v ⟨false, false, Yv4⟩), (9, .v Yl9), (10, .v Yl0), (37, .bx 123 [Yl6, Yl0, Yl0])]⟩ .nil)) .nil))) } }
noncomputable def i_3l : Inst := { f := 30, fn := Tryz.f30, n := 36, pds := [.pt true 123 [Yl6, Yl0, Yl0], .rd Yv2, .rd Yv4], caps := [], res := [⟨false, false, Yv7⟩], h := { al := [11, 19, 21], ca := [(10, 36), (16, 7), (23, 7), (27, 7), (33, 7)], code := (.two .nil (.two .nil (.two (.join ⟨[0, 36], [(0, .fix (.eq 36)), (18, .v Yl1), (36, .bx 123 [Yl6, Yl0, Yl0])]⟩ .nil .nil) .nil))) } }
noncomputable def i_2n : Inst := { f := 73, fn := Tryz.f73, n := 42, pds := [.rd Yv2, .rd Yv4], caps := [], res := [Yl9], h := { ca := [(14, 37), (33, 44)], code := (.two .nil (.two .nil (.two .nil (.join ⟨[5], [(5, .v Yl9)]⟩ (.two .nil (.loop ⟨[5, 6], [(5, .v Yl9), (6, .v Yl0)]⟩ (.two .nil (.join ⟨[5], [(5, .v Yl9)]⟩ (.two .nil (.loop ⟨[5, 7], [(5, .v Yl9), (7, .v Yl0)]⟩ (.two .nil (.join ⟨[5], [(5, .v Yl9)]⟩ .nil .nil)))) .nil)))) .nil)))) } }
noncomputable def i_2o : Inst := { f := 22, fn := Tryz.f22, n := 9, pds := [.rd Yv2, .rd Yv4], caps := [], res := [Yl1], h := { ca := [(7, 38)], code := .nil } }
noncomputable def i_2p : Inst := { f := 58, fn := Tryz.f58, n := 16, pds := [.rd Yv2, .rd Yv4], caps := [], res := [Yl0], h := { ca := [(6, 39), (10, 22), (15, 41)], code := (.two .nil (.two (.join ⟨[], [(12, .v Yl1)]⟩ .nil .nil) .nil)) } }
noncomputable def i_2l : Inst := { f := 47, fn := Tryz.f47, n := 48, pds := [.rd Yv2], caps := [], res := [Yl1], h := { ca := [(18, 25), (26, 23), (44, 40)], code := (.two .nil (.two .nil (.join ⟨[2], [(2, .v Yl1)]⟩ (.two .nil (.loop ⟨[2, 3], [(2, .v Yl1), (3, .v Yl0)]⟩ (.two .nil (.two (.join ⟨[], [(47, .v Yl1)]⟩ .nil .nil) .nil)))) .nil))) } }
noncomputable def i_2w : Inst := { f := 93, fn := Tryz.f93, n := 37, pds := [.rd .str, .rd .str], caps := [], res := [Yl1], h := { code := (.two .nil (.join ⟨[4], [(4, .v Yl1)]⟩ (.two .nil (.loop ⟨[4, 5], [(4, .v Yl1), (5, .v Yl0)]⟩ (.two (.join ⟨[], [(15, .v Yl1)]⟩ .nil .nil) .nil))) .nil)) } }
noncomputable def i_3g : Inst := { f := 76, fn := Tryz.f76, n := 131, pds := [.rd Yv2, .rd Yv4, .rd Yv1], caps := [], res := [Yl0], h := { al := [23, 30, 61, 79, 90, 97, 103, 106, 112, 115, 121, 124, 128], ca := [(21, 42), (34, 41), (48, 43)], code := (.two .nil (.two .nil (.two .nil (.two .nil (.join ⟨[6, 8], [(6, .v Yl0), (8, .v Yl3)]⟩ (.two .nil (.loop ⟨[6, 8, 10], [(6, .v Yl0), (8, .v Yl3), (10, .v Yl0)]⟩ .nil)) (.join ⟨[6], [(6, .v Yl0)]⟩ (.two .nil (.two .nil (.two .nil (.join ⟨[], [(56, .v Yl1)]⟩ .nil (.two .nil (.two .nil (.two (.join ⟨[6], [(6, .v Yl0)]⟩ (.two .nil (.loop ⟨[6, 13], [(6, .v Yl0), (13, .v Yl0)]⟩ .nil)) .nil) (.two .nil (.two (.two (.join ⟨[], [(111, .v Yl1)]⟩ .nil .nil) .nil) .nil))))))))) .nil)))))) } }
noncomputable def i_3a : Inst := { f := 75, fn := Tryz.f75, n := 32, pds := [.rd Yv4, .rd Yv1], caps := [], res := [Yl3], h := { ca := [(17, 29), (28, 28)], code := (.two .nil (.two .nil (.two .nil (.join ⟨[5, 6], [(5, .v Yl3)]⟩ (.two .nil (.loop ⟨[5, 6, 7], [(5, .v Yl3), (6, .v Yl0), (7, .v Yl0)]⟩ .nil)) .nil)))) } }
noncomputable def i_3e : Inst := { f := 120, fn := Tryz.f120, n := 20, pds := [.rd Yv2, .rd .str], caps := [], res := [Yl0], h := { code := (.two .nil (.join ⟨[4], [(4, .v Yl0)]⟩ (.two .nil (.loop ⟨[4, 5], [(4, .v Yl0), (5, .v Yl0)]⟩ .nil)) .nil)) } }
noncomputable def i_2a : Inst := { f := 8, fn := Tryz.f8, n := 99, pds := [.rd Yv2, .rd Yv4, .rd Yv7], caps := [], res := [Yl4, Yl1], h := { al := [94], ca := [(17, 17), (20, 37), (25, 23), (34, 23), (41, 45), (71, 46), (81, 28), (93, 16), (95, 22)], code := (.two .nil (.two .nil (.two (.join ⟨[], [(36, .v Yl1)]⟩ .nil .nil) (.two .nil (.two (.join ⟨[], [(62, .v Yl1)]⟩ .nil .nil) .nil))))) } }
noncomputable def i_3o : Inst := { f := 33, fn := Tryz.f33, n := 16, pds := [.rd Yv1], caps := [], res := [Yl0, Yl0], h := { al := [8, 12], code := .nil } }
noncomputable def i_3n : Inst := { f := 34, fn := Tryz.f34, n := 230, pds := [.rd Yv2, .rd Yv4, .rd Yv1, .rd Yv1], caps := [], res := [Yl4, Yl1], h := { al := [35, 42, 51, 69, 92, 101, 117, 122, 132, 142, 145, 161, 166, 178, 209, 225], el := [70, 93, 102, 118, 123, 143, 146, 162, 167, 179, 210, 226], tk := [207], hi := [33], ca := [(32, 42), (46, 28), (73, 16), (96, 16), (105, 16), (126, 16), (135, 41), (149, 16), (170, 16), (182, 16), (213, 16), (229, 16)], code := (.two .nil (.two .nil (.two .nil (.two .nil (.two .nil (.join ⟨[13], [(13, .v ⟨true, false, (.sl 25 Yv4)⟩)]⟩ (.two .nil (.loop ⟨[13, 14], [(13, .v ⟨true, false, (.sl 25 Yv4)⟩), (14, .v Yl0)]⟩ .nil)) (.join ⟨[8, 9, 10, 11], [(8, .v Yl4), (9, .v Yl1), (10, .bx 52 [Yl0, Yl2, Yl0, Yl0, Yl0, Yl1, Yl7]), (11, .bx 52 [Yl0, Yl2, Yl0, Yl0, Yl0, Yl1, Yl7])]⟩ (.two .nil (.join ⟨[], [(60, .v Yl1)]⟩ .nil (.two .nil (.two .nil (.two (.two (.join ⟨[], [(81, .v Yl1)]⟩ .nil .nil) (.join ⟨[11], [(11, .bx 52 [Yl0, Yl2, Yl0, Yl0, Yl0, Yl1, Yl7])]⟩ .nil .nil)) (.two .nil (.two .nil (.two .nil (.two .nil (.join ⟨[], [(127, .v Yl1)]⟩ .nil (.two .nil (.two .nil (.two .nil (.two .nil (.two (.two .nil (.join ⟨[18], [(18, .v Yl3)]⟩ (.two .nil (.loop ⟨[18, 19], [(18, .v Yl3), (19, .v Yl0)]⟩ .nil)) .nil)) .nil))))))))))))))) .nil))))))) } }
noncomputable def i_2b : Inst := { f := 8, fn := Tryz.f8, n := 99, pds := [.rd Yv2, .rd Yv4, .rd Yv7], caps := [], res := [⟨false, false, Yv4⟩, Yl1], h := { al := [94], ca := [(17, 17), (20, 37), (25, 23), (34, 23), (41, 45), (71, 46), (81, 28), (93, 16), (95, 22)], code := (.two .nil (.two .nil (.two (.join ⟨[], [(36, .v Yl1)]⟩ .nil .nil) (.two .nil (.two (.join ⟨[], [(62, .v Yl1)]⟩ .nil .nil) .nil))))) } }
noncomputable def i_2j : Inst := { f := 63, fn := Tryz.f63, n := 42, pds := [.rd Yv2, .rd Yv4, .rd Yv8], caps := [], res := [Yl4, Yl0], h := { al := [26], ca := [(13, 17), (31, 44)], code := (.two .nil (.two .nil (.two .nil (.join ⟨[6, 7, 8], [(6, .v Yl4), (7, .v Yl0), (8, .v Yl4)]⟩ (.two .nil (.loop ⟨[6, 7, 8, 9], [(6, .v Yl4), (7, .v Yl0), (8, .v Yl4), (9, .v Yl0)]⟩ .nil)) .nil)))) } }
noncomputable def i_5 : Inst := { f := 23, fn := Tryz.f23, n := 36, pds := [.rd Yv2, .rd Yv4, .rd Yv4, .rd Yv8], caps := [], res := [Yl1], h := { al := [32], ca := [(13, 50), (24, 76), (34, 85)], code := (.two .nil (.two (.join ⟨[], [(19, .v Yl1)]⟩ .nil .nil) (.two .nil (.join ⟨[8], [(8, .v Yl1)]⟩ .nil .nil)))) } }
noncomputable def i_p : Inst := { f := 38, fn := Tryz.f38, n := 9, pds := [.rd Yv2, .rd Yv4], caps := [], res := [Yl1], h := { ca := [(7, 51)], code := .nil } }
noncomputable def i_q : Inst := { f := 11, fn := Tryz.f11, n := 16, pds := [.rd Yv2, .rd Yv4], caps := [], res := [Yl0], h := { ca := [(6, 52), (10, 55), (15, 70)], code := (.two .nil (.two (.join ⟨[], [(12, .v Yl1)]⟩ .nil .nil) .nil)) } }
noncomputable def i_k : Inst := { f := 43, fn := Tryz.f43, n := 41, pds := [.rd Yv2], caps := [], res := [Yl1], h := { ca := [(14, 53), (19, 54)], code := (.two .nil (.join ⟨[2], [(2, .v Yl1)]⟩ (.two .nil (.loop ⟨[2, 7], [(2, .v Yl1), (7, .v Yl0)]⟩ (.two .nil (.two .nil (.two (.two .nil (.join ⟨[], [(36, .v Yl1)]⟩ .nil .nil)) .nil))))) .nil)) } }
noncomputable def i_r : Inst := { f := 84, fn := Tryz.f84, n := 38, pds := [.rd .str], caps := [], res := [Yl1], h := { ca := [(37, 54)], code := (.two .nil (.join ⟨[2], [(2, .v Yl1)]⟩ (.two .nil (.loop ⟨[2, 8], [(2, .v Yl1), (8, .v Yl0)]⟩ (.two .nil (.two .nil (.two (.two .nil (.two .nil (.join ⟨[], [(5, .v Yl1)]⟩ .nil (.join ⟨[], [(33, .v Yl1)]⟩ .nil .nil)))) .nil))))) .nil)) } }
noncomputable def i_11 : Inst := { f := 80, fn := Tryz.f80, n := 15, pds := [.rd Yv1, .rd Yv1, .rd Yv1], caps := [], res := [Yl1], h := { code := (.two .nil (.join ⟨[6], [(6, .v Yl1)]⟩ .nil .nil)) } }
noncomputable def i_e : Inst := { f := 44, fn := Tryz.f44, n := 16, pds := [.rd Yv4], caps := [], res := [Yl1], h := { ca := [(5, 54), (9, 56), (12, 68)], code := (.two .nil (.two (.join ⟨[], [(10, .v Yl1)]⟩ .nil .nil) .nil)) } }
noncomputable def i_1n : Inst := { f := 85, fn := Tryz.f85, n := 9, pds := [.rd Yv4, .fn 86 []], caps := [], res := [Yl1], h := { ca := [(7, 57)], code := .nil } }
noncomputable def i_1x : Inst := { f := 126, fn := Tryz.f126, n := 19, pds := [.rd Yv4, .fn 86 []], caps := [], res := [Yl0], h := { ca := [(16, 58)], code := (.two .nil (.join ⟨[4], [(4, .v Yl0)]⟩ (.two .nil (.loop ⟨[4, 8], [(4, .v Yl0), (8, .v Yl0)]⟩ .nil)) .nil)) } }
noncomputable def i_f : Inst := { f := 86, fn := Tryz.f86, n := 6, pds := [.rd Yv0], caps := [], res := [Yl1], h := { ca := [(4, 59)], code := .nil } }
noncomputable def i_b : Inst := { f := 87, fn := Tryz.f87, n := 116, pds := [.rd Yv0], caps := [], res := [Yl1], h := { ca := [(13, 53), (19, 60), (23, 54), (29, 62), (53, 61), (64, 54), (68, 63), (76, 60), (80, 60), (88, 60), (94, 54), (102, 61), (114, 66)], code := (.two .nil (.two .nil (.two .nil (.two .nil (.join ⟨[3, 4, 6], [(3, .bx 52 [Yl0, Yl2, Yl0, Yl0, Yl0, Yl1, Yl7]), (4, .v Yl1)]⟩ (.two .nil (.two .nil (.two .nil (.two .nil (.two (.join ⟨[4], [(4, .v Yl1)]⟩ .nil (.join ⟨[4], [(4, .v Yl1)]⟩ .nil .nil)) (.two .nil (.two (.join ⟨[4], [(4, .v Yl1)]⟩ .nil .nil) (.two .nil (.two (.join ⟨[4], [(4, .v Yl1)]⟩ .nil .nil) (.two .nil (.two .nil (.two .nil (.two (.join ⟨[4], [(4, .v Yl1)]⟩ .nil .nil) (.join ⟨[], [(107, .v Yl1)]⟩ .nil .nil)))))))))))))) (.join ⟨[2], [(2, .v Yl1)]⟩ .nil .nil)))))) } }
noncomputable def i_12 : Inst := { f := 127, fn := Tryz.f127, n := 5, pds := [.rd Yv1], caps := [], res := [Yl1], h := { ca := [(4, 54)], code := .nil } }
noncomputable def i_14 : Inst := { f := 128, fn := Tryz.f128, n := 5, pds := [.rd Yv1], caps := [], res := [Yl1], h := { ca := [(4, 54)], code := .nil } }
noncomputable def i_13 : Inst := { f := 129, fn := Tryz.f129, n := 5, pds := [.rd Yv1], caps := [], res := [Yl1], h := { ca := [(4, 54)], code := .nil } }
noncomputable def i_1p : Inst := { f := 94, fn := Tryz.f94, n := 9, pds := [.rd Yv3, .fn 130 []], caps := [], res := [Yl1], h := { ca := [(7, 64)], code := .nil } }
noncomputable def i_20 : Inst := { f := 134, fn := Tryz.f134, n := 19, pds := [.rd Yv3, .fn 130 []], caps := [], res := [Yl0], h := { ca := [(16, 65)], code := (.two .nil (.join ⟨[4], [(4, .v Yl0)]⟩ (.two .nil (.loop ⟨[4, 8], [(4, .v Yl0), (8, .v Yl0)]⟩ .nil)) .nil)) } }
noncomputable def i_c : Inst := { f := 130, fn := Tryz.f130, n := 6, pds := [.rd Yv1], caps := [], res := [Yl1], h := { ca := [(4, 60)], code := .nil } }
noncomputable def i_19 : Inst := { f := 42, fn := Tryz.f42, n := 52, pds := [.rd Yv0, .rd Yv0], caps := [], res := [Yl1], h := { ca := [(50, 67)], code := (.two .nil (.join ⟨[4], [(4, .v Yl1)]⟩ .nil .nil)) } }
noncomputable def i_1t : Inst := { f := 54, fn := Tryz.f54, n := 26, pds := [.rd Yv3, .rd Yv3], caps := [], res := [Yl1], h := { code := (.two .nil (.two .nil (.join ⟨[4], [(4, .v Yl1)]⟩ (.two .nil (.loop ⟨[4, 13], [(4, .v Yl1), (13, .v Yl0)]⟩ .nil)) .nil))) } }
noncomputable def i_w : Inst := { f := 83, fn := Tryz.f83, n := 35, pds := [.rd Yv4, .rd Yv1, .rd Yv1], caps := [], res := [Yl0], h := { ca := [(23, 69), (30, 68)], code := (.two .nil (.two (.join ⟨[], [(15, .v Yl1)]⟩ .nil .nil) (.two .nil (.join ⟨[6, 7], [(6, .v Yl0), (7, .v Yl0)]⟩ (.two .nil (.loop ⟨[6, 7, 24], [(6, .v Yl0), (7, .v Yl0), (24, .v Yl0)]⟩ .nil)) .nil)))) } }
noncomputable def i_4 : Inst := { f := 125, fn := Tryz.f125, n := 15, pds := [.rd Yv1], caps := [], res := [Yl0], h := { code := (.two .nil (.two (.two .nil (.two .nil (.two .nil (.join ⟨[], [(6, .v Yl1)]⟩ .nil (.two .nil (.join ⟨[], [(9, .v Yl1)]⟩ .nil .nil)))))) .nil)) } }
noncomputable def i_1e : Inst := { f := 45, fn := Tryz.f45, n := 117, pds := [.rd Yv2, .rd Yv4, .rd Yv1], caps := [], res := [Yl0], h := { al := [56, 65, 76, 83, 89, 92, 98, 101, 107, 110, 114], ca := [(15, 71), (24, 70), (43, 72), (64, 75)], code := (.two .nil (.two .nil (.join ⟨[6, 7], [(6, .v Yl0), (7, .v Yl3)]⟩ (.two .nil (.loop ⟨[6, 7, 17], [(6, .v Yl0), (7, .v Yl3), (17, .v Yl0)]⟩ .nil)) (.two .nil (.join ⟨[6], [(6, .v Yl0)]⟩ (.two .nil (.two .nil (.two .nil (.join ⟨[], [(51, .v Yl1)]⟩ .nil (.two .nil (.two .nil (.two .nil (.two .nil (.two (.two (.join ⟨[], [(97, .v Yl1)]⟩ .nil .nil) .nil) .nil))))))))) .nil))))) } }
noncomputable def i_t : Inst := { f := 88, fn := Tryz.f88, n := 26, pds := [.rd Yv4, .rd Yv1], caps := [], res := [Yl3], h := { ca := [(14, 69), (23, 68)], code := (.two .nil (.two .nil (.two .nil (.join ⟨[5, 6], [(5, .v Yl3)]⟩ (.two .nil (.loop ⟨[5, 6, 15], [(5, .v Yl3), (6, .v Yl0), (15, .v Yl0)]⟩ .nil)) .nil)))) } }
noncomputable def i_1b : Inst := { f := 89, fn := Tryz.f89, n := 8, pds := [.rd Yv2, .rd .str], caps := [], res := [Yl0], h := { ca := [(7, 73)], code := .nil } }
noncomputable def i_1z : Inst := { f := 131, fn := Tryz.f131, n := 19, pds := [.rd Yv2, .fn 132 [(true, 9, [Yl2])]], caps := [], res := [Yl0], h := { ca := [(16, 74)], code := (.two .nil (.join ⟨[1, 4, 19], [(4, .v Yl0), (19, .bx 9 [Yl2])]⟩ (.two .nil (.loop ⟨[1, 4, 8, 19], [(1, .fix (.fn 132 [19])), (4, .v Yl0), (8, .v Yl0), (19, .bx 9 [Yl2])]⟩ .nil)) .nil)) } }
noncomputable def i_1c : Inst := { f := 132, fn := Tryz.f132, n := 8, pds := [.rd (.pr .str (.pr Yv1 .un))], caps := [(true, 9, [Yl2])], res := [Yl1], h := { code := .nil } }
noncomputable def i_22 : Inst := { f := 90, fn := Tryz.f90, n := 25, pds := [.rd Yv3], caps := [], res := [Yl0], h := { code := (.two .nil (.join ⟨[], []⟩ .nil (.two .nil (.join ⟨[3], [(3, .v Yl0)]⟩ (.two .nil (.loop ⟨[3, 4], [(3, .v Yl0), (4, .v Yl0)]⟩ .nil)) .nil)))) } }
noncomputable def i_g : Inst := { f := 59, fn := Tryz.f59, n := 42, pds := [.rd Yv2, .rd Yv4, .rd Yv8], caps := [], res := [Yl4, Yl0], h := { al := [28], ca := [(14, 77), (30, 79)], code := (.two .nil (.two .nil (.two .nil (.join ⟨[6, 7, 8], [(6, .v Yl4), (7, .v Yl0), (8, .v Yl4)]⟩ (.two .nil (.loop ⟨[6, 7, 8, 21], [(6, .v Yl4), (7, .v Yl0), (8, .v Yl4), (21, .v Yl0)]⟩ .nil)) .nil)))) } }
noncomputable def i_17 : Inst := { f := 39, fn := Tryz.f39, n := 22, pds := [.rd Yv4], caps := [], res := [Yl4], h := { tk := [17], ca := [(14, 78)], code := (.two .nil (.two .nil (.join ⟨[3], [(3, .v Yl4)]⟩ (.two .nil (.loop ⟨[3, 8], [(3, .v Yl4), (8, .v Yl0)]⟩ .nil)) .nil))) } }
noncomputable def i_1i : Inst := { f := 79, fn := Tryz.f79, n := 8, pds := [.rd Yv3], caps := [], res := [Yl3], h := { code := .nil } }
noncomputable def i_3 : Inst := { f := 9, fn := Tryz.f9, n := 20, pds := [.rd Yv2, .rd Yv4, .rd Yv7], caps := [], res := [Yl4, Yl1], h := { ca := [(10, 50), (13, 77), (17, 80)], code := .nil } }
noncomputable def i_s : Inst := { f := 40, fn := Tryz.f40, n := 51, pds := [.rd Yv2, .rd Yv4, .rd Yv7], caps := [], res := [Yl4, Yl1], h := { al := [45], ca := [(16, 54), (19, 77), (24, 81), (30, 77), (40, 68), (43, 83), (44, 77), (46, 55), (49, 77)], code := .nil } }
noncomputable def i_1d : Inst := { f := 81, fn := Tryz.f81, n := 237, pds := [.rd Yv2, .rd Yv4, .rd Yv7], caps := [], res := [Yl11, Yl1], h := { al := [123, 126, 132, 144, 154, 172, 175, 182], tk := [212], hs := [14], ca := [(24, 82), (65, 71), (69, 68), (100, 83), (106, 83), (117, 83), (138, 83), (147, 70), (160, 83), (188, 83), (216, 83), (231, 83), (236, 83)], code := (.two .nil (.two .nil (.two (.join ⟨[], [(49, .v Yl1)]⟩ .nil .nil) (.two .nil (.two .nil (.two .nil (.two .nil (.two .nil (.two .nil (.join ⟨[6, 7, 10, 11, 15], [(6, .v Yl4), (7, .v Yl1), (15, .v Yl11)]⟩ (.two .nil (.two .nil (.two (.two (.join ⟨[], [(89, .v Yl1)]⟩ .nil .nil) .nil) (.two .nil (.two .nil (.two .nil (.two .nil (.two .nil (.two .nil (.join ⟨[], [(139, .v Yl1)]⟩ .nil (.two .nil (.two .nil (.two (.two .nil (.join ⟨[18], [(18, .v Yl3)]⟩ (.two .nil (.loop ⟨[18, 197], [(18, .v Yl3), (197, .v Yl0)]⟩ .nil)) .nil)) .nil))))))))))))) .nil)))))))))) } }
noncomputable def i_16 : Inst := { f := 123, fn := Tryz.f123, n := 28, pds := [.rd Yv1], caps := [], res := [Yl0, Yl0], h := { code := (.two .nil (.two (.two .nil (.two .nil (.two .nil (.two .nil (.two .nil (.two .nil (.two .nil (.two .nil (.two .nil (.two .nil (.two .nil (.join ⟨[], [(15, .v Yl1)]⟩ .nil .nil)))))))))))) .nil)) } }
noncomputable def i_1l : Inst := { f := 82, fn := Tryz.f82, n := 36, pds := [.rd (.sl 25 Yv4)], caps := [], res := [Yl11], h := { hi := [24], ca := [(24, 84)], code := (.two .nil (.two .nil (.join ⟨[3], [(3, .v Yl0)]⟩ (.two .nil (.loop ⟨[3, 11], [(3, .v Yl0), (11, .v Yl0)]⟩ (.two .nil (.two .nil (.join ⟨[3], [(3, .v Yl0)]⟩ .nil .nil))))) (.two .nil (.join ⟨[6], [(6, .v Yl11)]⟩ (.two .nil (.loop ⟨[6, 27], [(6, .v Yl11), (27, .v Yl0)]⟩ .nil)) .nil))))) } }
noncomputable def i_1v : Inst := { f := 124, fn := Tryz.f124, n := 27, pds := [.ow true 52 Yv0, .rd Yv1], caps := [], res := [Yl11], h := { tk := [25], code := .nil } }
noncomputable def i_i : Inst := { f := 10, fn := Tryz.f10, n := 8, pds := [.rd Yv4, .rd Yv4], caps := [], res := [Yl1], h := { ca := [(7, 86)], code := .nil } }
noncomputable def i_1s : Inst := { f := 41, fn := Tryz.f41, n := 32, pds := [.rd Yv4, .rd Yv4, .fn 42 []], caps := [], res := [Yl1], h := { ca := [(29, 66)], code := (.two .nil (.two .nil (.join ⟨[6], [(6, .v Yl1)]⟩ (.two .nil (.loop ⟨[6, 17], [(6, .v Yl1), (17, .v Yl0)]⟩ .nil)) .nil))) } }
noncomputable def i_2d : Inst := { f := 26, fn := Tryz.f26, n := 37, pds := [.rd Yv2, .rd Yv4, .rd Yv4, .rd Yv8], caps := [], res := [Yl1], h := { al := [33], ca := [(15, 48), (20, 37), (35, 88)], code := (.two .nil (.two .nil (.join ⟨[8], [(8, .v Yl1)]⟩ .nil .nil))) } }
noncomputable def i_2k : Inst := { f := 66, fn := Tryz.f66, n := 27, pds := [.rd Yv4, .rd Yv4], caps := [], res := [Yl1], h := { ca := [(25, 89)], code := (.two .nil (.two .nil (.join ⟨[4], [(4, .v Yl1)]⟩ (.two .nil (.loop ⟨[4, 5], [(4, .v Yl1), (5, .v Yl0)]⟩ .nil)) .nil))) } }
noncomputable def i_3c : Inst := { f := 113, fn := Tryz.f113, n := 52, pds := [.rd Yv0, .rd Yv0], caps := [], res := [Yl1], h := { ca := [(50, 90)], code := (.two .nil (.join ⟨[4], [(4, .v Yl1)]⟩ .nil .nil)) } }
noncomputable def i_3b : Inst := { f := 140, fn := Tryz.f140, n := 26, pds := [.rd Yv3, .rd Yv3], caps := [], res := [Yl1], h := { code := (.two .nil (.two .nil (.join ⟨[4], [(4, .v Yl1)]⟩ (.two .nil (.loop ⟨[4, 5], [(4, .v Yl1), (5, .v Yl0)]⟩ .nil)) .nil))) } }
noncomputable def i_1f : Inst := { f := 14, fn := Tryz.f14, n := 21, pds := [.rd Yv5, .rd Yv1], caps := [], res := [Yl0], h := { code := .nil } }
noncomputable def i_a : Inst := { f := 27, fn := Tryz.f27, n := 52, pds := [.rd Yv4, .rd Yv3], caps := [], res := [Yl4, Yl1], h := { al := [14, 19, 48], el := [21], ca := [(10, 55), (13, 77), (49, 55)], code := (.two .nil (.two .nil (.two .nil (.join ⟨[4, 5, 6], [(4, .v Yl4), (5, .v Yl1), (6, .v Yl4)]⟩ (.two .nil (.loop ⟨[4, 5, 6, 14, 16], [(4, .v Yl4), (5, .v Yl1), (6, .v Yl4), (16, .v Yl0)]⟩ (.two .nil (.two .nil (.join ⟨[4, 5, 6], [(4, .v Yl4), (5, .v Yl1), (6, .v Yl4)]⟩ .nil .nil))))) .nil)))) } }
noncomputable def i_8 : Inst := { f := 12, fn := Tryz.f12, n := 14, pds := [.rd Yv2, .rd Yv4, .rd Yv4, .rd Yv1], caps := [], res := [Yl0], h := { ca := [(13, 94)], code := .nil } }
noncomputable def i_v : Inst := { f := 46, fn := Tryz.f46, n := 56, pds := [.rd Yv2, .rd Yv4, .rd Yv4, .rd Yv1, .fn 16 []], caps := [], res := [Yl0], h := { al := [29, 36, 49, 50], ca := [(18, 54), (26, 95), (31, 97), (38, 97), (51, 125)], code := (.two .nil (.two .nil (.join ⟨[10], [(10, .v Yl0)]⟩ (.two .nil (.loop ⟨[10, 21], [(10, .v Yl0), (21, .v Yl0)]⟩ (.two .nil (.two .nil (.two (.two .nil (.two .nil (.two .nil (.two .nil (.join ⟨[], [(53, .v Yl1)]⟩ .nil .nil))))) .nil))))) .nil))) } }
noncomputable def i_m : Inst := { f := 91, fn := Tryz.f91, n := 59, pds := [.rd Yv2, .rd Yv1], caps := [], res := [⟨true, true, (.sl 38 Yv6)⟩], h := { ca := [(13, 52), (17, 54), (30, 96), (39, 96)], code := (.two .nil (.two (.join ⟨[], [(19, .v Yl1)]⟩ .nil .nil) (.two .nil (.two .nil (.join ⟨[5, 6, 22], [(6, .v ⟨true, true, (.sl 38 Yv6)⟩)]⟩ (.two .nil (.loop ⟨[5, 6, 22, 25], [(5, .fix (.eq 22)), (6, .v ⟨true, true, (.sl 38 Yv6)⟩), (22, .bx 136 [Yl8]), (25, .v Yl0)]⟩ (.two .nil (.two .nil (.join ⟨[5, 6, 22], [(5, .fix (.eq 22)), (6, .v ⟨true, true, (.sl 38 Yv6)⟩), (22, .bx 136 [Yl8])]⟩ (.two .nil (.two .nil (.join ⟨[5, 9, 22], [(5, .fix (.eq 22)), (9, .v Yl10), (22, .bx 136 [Yl8])]⟩ (.two .nil (.loop ⟨[5, 9, 22, 29, 32], [(5, .fix (.eq 22)), (9, .v Yl10), (22, .bx 136 [Yl8]), (32, .v Yl0)]⟩ (.two .nil (.two .nil (.join ⟨[5, 9, 22], [(5, .fix (.eq 22)), (9, .v Yl10), (22, .bx 136 [Yl8])]⟩ (.two .nil (.join ⟨[5, 10, 22], [(5, .fix (.eq 22)), (10, .v Yl3), (22, .bx 136 [Yl8])]⟩ (.two .nil (.loop ⟨[5, 10, 22, 36], [(5, .fix (.eq 22)), (10, .v Yl3), (22, .bx 136 [Yl8]), (36, .v Yl0)]⟩ (.two .nil (.two .nil (.two (.two .nil (.join ⟨[11], [(11, .v Yl0)]⟩ .nil .nil)) .nil))))) .nil)) .nil))))) .nil))) .nil))))) .nil))))) } }
noncomputable def i_1a : Inst := { f := 133, fn := Tryz.f133, n := 17, pds := [.pt true 136 [Yl8]], caps := [], res := [Yl0], h := { code := .nil } }
noncomputable def i_9 : Inst := { f := 15, fn := Tryz.f15, n := 35, pds := [.rd Yv2, .rd (.sl 38 Yv6), .rd Yv4], caps := [], res := [Yl10, Yl0], h := { ca := [(12, 98), (17, 50), (22, 103), (28, 107), (34, 124)], code := (.two .nil (.two (.join ⟨[], [(23, .v Yl1)]⟩ .nil .nil) .nil)) } }
noncomputable def i_n : Inst := { f := 49, fn := Tryz.f49, n := 49, pds := [.rd Yv2, .rd (.sl 38 Yv6)], caps := [], res := [Yl1], h := { ca := [(10, 52), (45, 99)], code := (.two .nil (.two (.join ⟨[], [(18, .v Yl1)]⟩ .nil .nil) (.join ⟨[4], [(4, .v Yl1)]⟩ (.two .nil (.loop ⟨[4, 21], [(4, .v Yl1), (21, .v Yl0)]⟩ (.two .nil (.two .nil (.join ⟨[4], [(4, .v Yl1)]⟩ (.two .nil (.two .nil (.two .nil (.loop ⟨[4, 31], [(4, .v Yl1), (31, .v Yl0)]⟩ (.two .nil (.two .nil (.two (.two .nil (.join ⟨[], [(46, .v Yl1)]⟩ .nil .nil)) .nil))))))) .nil))))) .nil))) } }
noncomputable def i_1q : Inst := { f := 94, fn := Tryz.f94, n := 9, pds := [.rd Yv3, .fn 95 []], caps := [], res := [Yl1], h := { ca := [(7, 100)], code := .nil } }
noncomputable def i_21 : Inst := { f := 134, fn := Tryz.f134, n := 19, pds := [.rd Yv3, .fn 95 []], caps := [], res := [Yl0], h := { ca := [(16, 101)], code := (.two .nil (.join ⟨[4], [(4, .v Yl0)]⟩ (.two .nil (.loop ⟨[4, 8], [(4, .v Yl0), (8, .v Yl0)]⟩ .nil)) .nil)) } }
noncomputable def i_o : Inst := { f := 95, fn := Tryz.f95, n := 6, pds := [.rd Yv1], caps := [], res := [Yl1], h := { ca := [(4, 102)], code := .nil } }
noncomputable def i_15 : Inst := { f := 96, fn := Tryz.f96, n := 9, pds := [.rd Yv1], caps := [], res := [Yl1], h := { ca := [(4, 62)], code := (.two .nil (.join ⟨[2], [(2, .v Yl1)]⟩ .nil .nil)) } }
noncomputable def i_z : Inst := { f := 50, fn := Tryz.f50, n := 5, pds := [.rd Yv4], caps := [], res := [Yl1], h := { ca := [(4, 104)], code := .nil } }
noncomputable def i_1o : Inst := { f := 85, fn := Tryz.f85, n := 9, pds := [.rd Yv4, .fn 97 []], caps := [], res := [Yl1], h := { ca := [(7, 105)], code := .nil } }
noncomputable def i_1y : Inst := { f := 126, fn := Tryz.f126, n := 19, pds := [.rd Yv4, .fn 97 []], caps := [], res := [Yl0], h := { ca := [(16, 106)], code := (.two .nil (.join ⟨[4], [(4, .v Yl0)]⟩ (.two .nil (.loop ⟨[4, 8], [(4, .v Yl0), (8, .v Yl0)]⟩ .nil)) .nil)) } }
noncomputable def i_10 : Inst := { f := 97, fn := Tryz.f97, n := 5, pds := [.rd Yv0], caps := [], res := [Yl1], h := { code := .nil } }
noncomputable def i_x : Inst := { f := 51, fn := Tryz.f51, n := 221, pds := [.rd Yv2, .rd (.sl 38 Yv6), .rd Yv4, .rd Yv1], caps := [], res := [⟨false, false, Yv6⟩, Yl1], h := { al := [70, 92, 122, 130, 168, 171, 178, 182, 187, 192, 200, 208], el := [71, 93, 123, 131, 169, 172, 179, 188, 193, 201], hi := [10, 16, 117, 162], hs := [217], ca := [(32, 71), (43, 107), (65, 72), (84, 108), (161, 109), (175, 111), (181, 113), (184, 114), (210, 123)], code := (.two .nil (.two .nil (.join ⟨[8, 9, 10], [(8, .v Yl10), (9, .v Yl1), (10, .v ⟨true, false, (.sl 38 Yv6)⟩)]⟩ (.two .nil (.loop ⟨[8, 9, 10, 34], [(8, .v Yl10), (9, .v Yl1), (10, .v ⟨true, false, (.sl 38 Yv6)⟩), (34, .v Yl0)]⟩ .nil)) (.two .nil (.two .nil (.two (.two .nil (.two .nil (.two .nil (.two .nil (.two (.two .nil (.loop ⟨[16, 74], [(16, .v Yl5), (74, .v Yl0)]⟩ (.two .nil (.two .nil (.join ⟨[16], [(16, .v Yl5)]⟩ .nil .nil))))) (.two .nil (.two (.two .nil (.loop ⟨[16, 96], [(16, .v Yl5), (96, .v Yl0)]⟩ (.two .nil (.two .nil (.join ⟨[16], [(16, .v Yl5)]⟩ (.two .nil (.two .nil (.join ⟨[21], [(21, .v Yl3)]⟩ (.two .nil (.loop ⟨[21, 103], [(21, .v Yl3), (103, .v Yl0)]⟩ .nil)) .nil))) .nil))))) (.two .nil (.two (.two .nil (.loop ⟨[16, 126], [(16, .v Yl5), (126, .v Yl0)]⟩ (.two .nil (.two .nil (.join ⟨[16], [(16, .v Yl5)]⟩ (.two .nil (.two .nil (.loop ⟨[16, 134], [(16, .v Yl5), (134, .v Yl0)]⟩ (.two .nil (.two .nil (.join ⟨[16], [(16, .v Yl5)]⟩ (.two .nil (.join ⟨[], [(156, .v Yl1)]⟩ .nil .nil)) .nil)))))) .nil))))) (.two .nil (.two .nil (.two .nil (.two .nil (.two .nil (.two .nil (.two .nil (.two (.two .nil (.loop ⟨[16, 204], [(16, .v Yl5), (204, .v Yl0)]⟩ (.two .nil (.two .nil (.join ⟨[16], [(16, .v Yl5)]⟩ .nil .nil))))) .nil))))))))))))))))) .nil)))))) } }
noncomputable def i_d : Inst := { f := 98, fn := Tryz.f98, n := 35, pds := [.rd Yv0, .rd Yv1], caps := [], res := [Yl1], h := { code := (.two .nil (.two (.two .nil (.two .nil (.two .nil (.two .nil (.two .nil (.two .nil (.two (.join ⟨[4], [(4, .v Yl1)]⟩ .nil .nil) .nil))))))) (.join ⟨[4], [(4, .v Yl1)]⟩ .nil .nil))) } }
noncomputable def i_1m : Inst := { f := 99, fn := Tryz.f99, n := 36, pds := [.rd Yv6], caps := [], res := [Yl3], h := { ca := [(24, 110)], code := (.two .nil (.two .nil (.join ⟨[3], [(3, .v Yl0)]⟩ (.two .nil (.loop ⟨[3, 11], [(3, .v Yl0), (11, .v Yl0)]⟩ (.two .nil (.two .nil (.join ⟨[3], [(3, .v Yl0)]⟩ .nil .nil))))) (.two .nil (.join ⟨[6], [(6, .v Yl3)]⟩ (.two .nil (.loop ⟨[6, 27], [(6, .v Yl3), (27, .v Yl0)]⟩ .nil)) .nil))))) } }
noncomputable def i_1w : Inst := { f := 135, fn := Tryz.f135, n := 27, pds := [.ow true 3 Yv1, .rd Yv1], caps := [], res := [Yl3], h := { tk := [25], code := .nil } }
noncomputable def i_1k : Inst := { f := 100, fn := Tryz.f100, n := 36, pds := [.rd (.sl 38 Yv6)], caps := [], res := [Yl5], h := { hi := [24], ca := [(24, 112)], code := (.two .nil (.two .nil (.join ⟨[3], [(3, .v Yl0)]⟩ (.two .nil (.loop ⟨[3, 11], [(3, .v Yl0), (11, .v Yl0)]⟩ (.two .nil (.two .nil (.join ⟨[3], [(3, .v Yl0)]⟩ .nil .nil))))) (.two .nil (.join ⟨[6], [(6, .v Yl5)]⟩ (.two .nil (.loop ⟨[6, 27], [(6, .v Yl5), (27, .v Yl0)]⟩ .nil)) .nil))))) } }
noncomputable def i_1u : Inst := { f := 136, fn := Tryz.f136, n := 27, pds := [.ow true 50 Yv3, .rd Yv1], caps := [], res := [Yl5], h := { tk := [25], code := .nil } }
noncomputable def i_1h : Inst := { f := 101, fn := Tryz.f101, n := 8, pds := [.rd Yv6], caps := [], res := [Yl5], h := { hi := [5], code := .nil } }
noncomputable def i_24 : Inst := { f := 102, fn := Tryz.f102, n := 9, pds := [.mu true false 50 Yv3, .fn 103 [(true, 52, [Yl0, Yl2, Yl0, Yl0, Yl0, Yl1, Yl7])]], caps := [], res := [], h := { ca := [(8, 115)], code := .nil } }
noncomputable def i_27 : Inst := { f := 137, fn := Tryz.f137, n := 63, pds := [.mu true false 50 Yv3, .rd Yv1, .fn 103 [(true, 52, [Yl0, Yl2, Yl0, Yl0, Yl0, Yl1, Yl7])]], caps := [], res := [], h := { ca := [(18, 116), (27, 116), (43, 120), (60, 120)], code := (.two .nil (.two .nil (.join ⟨[0, 2, 7, 8, 63, 64], [(0, .fix (.eq 63)), (2, .fix (.fn 103 [64])), (7, .v Yl0), (63, .v Yl5), (64, .bx 52 [Yl0, Yl2, Yl0, Yl0, Yl0, Yl1, Yl7])]⟩ (.loop ⟨[0, 2, 7, 8, 63, 64], [(0, .fix (.eq 63)), (2, .fix (.fn 103 [64])), (7, .v Yl0), (8, .v Yl0), (63, .v Yl5), (64, .bx 52 [Yl0, Yl2, Yl0, Yl0, Yl0, Yl1, Yl7])]⟩ .nil) (.two .nil (.loop ⟨[0, 2, 6, 7, 23, 26, 63, 64], [(0, .fix (.eq 63)), (2, .fix (.fn 103 [64])), (6, .v Yl0), (63, .v Yl5), (64, .bx 52 [Yl0, Yl2, Yl0, Yl0, Yl0, Yl1, Yl7])]⟩ (.two .nil (.two .nil (.join ⟨[0, 2, 7, 8, 63, 64], [(0, .fix (.eq 63)), (2, .fix (.fn 103 [64])), (7, .v Yl0), (63, .v Yl5), (64, .bx 52 [Yl0, Yl2, Yl0, Yl0, Yl0, Yl1, Yl7])]⟩ (.loop ⟨[0, 2, 7, 8, 63, 64], [(0, .fix (.eq 63)), (2, .fix (.fn 103 [64])), (7, .v Yl0), (8, .v Yl0), (63, .v Yl5), (64, .bx 52 [Yl0, Yl2, Yl0, Yl0, Yl0, Yl1, Yl7])]⟩ .nil) (.join ⟨[0, 2, 63, 64], [(0, .fix (.eq 63)), (2, .fix (.fn 103 [64])), (63, .v Yl5), (64, .bx 52 [Yl0, Yl2, Yl0, Yl0, Yl0, Yl1, Yl7])]⟩ .nil .nil))))))))) } }
noncomputable def i_25 : Inst := { f := 145, fn := Tryz.f145, n := 53, pds := [.mu true false 50 Yv3, .rd Yv1, .rd Yv1, .fn 103 [(true, 52, [Yl0, Yl2, Yl0, Yl0, Yl0, Yl1, Yl7])]], caps := [], res := [], h := { el := [25, 30], ca := [(32, 117)], code := (.two .nil (.loop ⟨[0, 3, 8, 53, 54], [(0, .fix (.eq 53)), (3, .fix (.fn 103 [54])), (8, .v Yl0), (53, .v Yl5), (54, .bx 52 [Yl0, Yl2, Yl0, Yl0, Yl0, Yl1, Yl7])]⟩ (.two .nil (.join ⟨[0, 3, 53, 54], [(0, .fix (.eq 53)), (3, .fix (.fn 103 [54])), (53, .v Yl5), (54, .bx 52 [Yl0, Yl2, Yl0, Yl0, Yl0, Yl1, Yl7])]⟩ (.two .nil (.loop ⟨[0, 3, 9, 53, 54], [(0, .fix (.eq 53)), (3, .fix (.fn 103 [54])), (9, .v Yl0), (53, .v Yl5), (54, .bx 52 [Yl0, Yl2, Yl0, Yl0, Yl0, Yl1, Yl7])]⟩ (.two (.join ⟨[3, 54], [(3, .fix (.fn 103 [54])), (34, .v Yl1), (54, .bx 52 [Yl0, Yl2, Yl0, Yl0, Yl0, Yl1, Yl7])]⟩ .nil .nil) .nil))) .nil)))) } }
noncomputable def i_y : Inst := { f := 103, fn := Tryz.f103, n := 17, pds := [.rd Yv3, .rd Yv3], caps := [(true, 52, [Yl0, Yl2, Yl0, Yl0, Yl0, Yl1, Yl7])], res := [Yl0], h := { ca := [(16, 118)], code := .nil } }
noncomputable def i_1 : Inst := { f := 104, fn := Tryz.f104, n := 20, pds := [.rd Yv1, .rd Yv1], caps := [], res := [Yl0], h := { ca := [(8, 119), (10, 119)], code := .nil } }
noncomputable def i_2 : Inst := { f := 138, fn := Tryz.f138, n := 6, pds := [.rd Yv1], caps := [], res := [Yl1], h := { code := .nil } }
noncomputable def i_29 : Inst := { f := 146, fn := Tryz.f146, n := 220, pds := [.mu true false 50 Yv3, .rd Yv1, .rd Yv1, .rd Yv1, .fn 103 [(true, 52, [Yl0, Yl2, Yl0, Yl0, Yl0, Yl1, Yl7])]], caps := [], res := [], h := { el := [43, 47, 95, 99, 163, 167], ca := [(49, 117), (101, 117), (169, 117), (191, 121), (205, 120), (219, 120)], code := (.join ⟨[0, 4, 220, 221], [(0, .fix (.eq 220)), (4, .fix (.fn 103 [221])), (220, .v Yl5), (221, .bx 52 [Yl0, Yl2, Yl0, Yl0, Yl0, Yl1, Yl7])]⟩ (.two .nil (.two (.two .nil (.two .nil (.join ⟨[4, 10, 11, 221], [(10, .v Yl0), (221, .bx 52 [Yl0, Yl2, Yl0, Yl0, Yl0, Yl1, Yl7])]⟩ (.loop ⟨[4, 10, 11, 221], [(4, .fix (.fn 103 [221])), (10, .v Yl0), (11, .v Yl0), (221, .bx 52 [Yl0, Yl2, Yl0, Yl0, Yl0, Yl1, Yl7])]⟩ .nil) (.join ⟨[0, 220], [(220, .v Yl5)]⟩ (.two .nil (.loop ⟨[0, 13, 220], [(0, .fix (.eq 220)), (13, .v Yl0), (220, .v Yl5)]⟩ .nil)) .nil)))) .nil)) (.join ⟨[0, 4, 220, 221], [(0, .fix (.eq 220)), (4, .fix (.fn 103 [221])), (220, .v Yl5), (221, .bx 52 [Yl0, Yl2, Yl0, Yl0, Yl0, Yl1, Yl7])]⟩ (.two .nil (.two (.two .nil (.two .nil (.join ⟨[4, 14, 15, 221], [(14, .v Yl0), (221, .bx 52 [Yl0, Yl2, Yl0, Yl0, Yl0, Yl1, Yl7])]⟩ (.loop ⟨[4, 14, 15, 221], [(4, .fix (.fn 103 [221])), (14, .v Yl0), (15, .v Yl0), (221, .bx 52 [Yl0, Yl2, Yl0, Yl0, Yl0, Yl1, Yl7])]⟩ .nil) (.join ⟨[0, 220], [(220, .v Yl5)]⟩ (.two .nil (.loop ⟨[0, 17, 220], [(0, .fix (.eq 220)), (17, .v Yl0), (220, .v Yl5)]⟩ .nil)) .nil)))) .nil)) (.two .nil (.two .nil (.two .nil (.join ⟨[20, 21], [(20, .v Yl0), (21, .v Yl0)]⟩ .nil (.two .nil (.join ⟨[4, 20, 21, 221], [(4, .fix (.fn 103 [221])), (20, .v Yl0), (221, .bx 52 [Yl0, Yl2, Yl0, Yl0, Yl0, Yl1, Yl7])]⟩ (.loop ⟨[4, 20, 21, 221], [(4, .fix (.fn 103 [221])), (20, .v Yl0), (21, .v Yl0), (221, .bx 52 [Yl0, Yl2, Yl0, Yl0, Yl0, Yl1, Yl7])]⟩ .nil) (.two .nil (.join ⟨[0, 4, 220, 221], [(0, .fix (.eq 220)), (4, .fix (.fn 103 [221])), (220, .v Yl5), (221, .bx 52 [Yl0, Yl2, Yl0, Yl0, Yl0, Yl1, Yl7])]⟩ (.join ⟨[], [(185, .v Yl1)]⟩ .nil .nil) (.join ⟨[0, 4, 220, 221], [(0, .fix (.eq 220)), (4, .fix (.fn 103 [221])), (220, .v Yl5), (221, .bx 52 [Yl0, Yl2, Yl0, Yl0, Yl0, Yl1, Yl7])]⟩ (.join ⟨[], [(199, .v Yl1)]⟩ .nil .nil) (.join ⟨[], [(213, .v Yl1)]⟩ .nil .nil)))))))))))) } }
noncomputable def i_26 : Inst := { f := 150, fn := Tryz.f150, n := 58, pds := [.mu true false 50 Yv3, .rd Yv1, .rd Yv1, .rd Yv1, .fn 103 [(true, 52, [Yl0, Yl2, Yl0, Yl0, Yl0, Yl1, Yl7])]], caps := [], res := [], h := { ca := [(31, 122), (46, 122), (57, 122)], code := (.two .nil (.two .nil (.join ⟨[0, 4, 10, 11, 58, 59], [(0, .fix (.eq 58)), (4, .fix (.fn 103 [59])), (10, .v Yl0), (58, .v Yl5), (59, .bx 52 [Yl0, Yl2, Yl0, Yl0, Yl0, Yl1, Yl7])]⟩ (.loop ⟨[0, 4, 10, 11, 58, 59], [(0, .fix (.eq 58)), (4, .fix (.fn 103 [59])), (10, .v Yl0), (11, .v Yl0), (58, .v Yl5), (59, .bx 52 [Yl0, Yl2, Yl0, Yl0, Yl0, Yl1, Yl7])]⟩ .nil) .nil))) } }
noncomputable def i_28 : Inst := { f := 160, fn := Tryz.f160, n := 38, pds := [.mu true false 50 Yv3, .rd Yv1, .rd Yv1, .rd Yv1, .fn 103 [(true, 52, [Yl0, Yl2, Yl0, Yl0, Yl0, Yl1, Yl7])]], caps := [], res := [], h := { code := (.two .nil (.loop ⟨[0, 10, 38], [(0, .fix (.eq 38)), (10, .v Yl0), (38, .v Yl5)]⟩ .nil)) } }
noncomputable def i_6 : Inst := { f := 105, fn := Tryz.f105, n := 21, pds := [.rd Yv6, .rd Yv3], caps := [], res := [Yl0], h := { ca := [(16, 67)], code := (.two .nil (.two .nil (.join ⟨[5], [(5, .v Yl0)]⟩ (.two .nil (.loop ⟨[5, 10], [(5, .v Yl0), (10, .v Yl0)]⟩ (.two .nil (.two .nil (.join ⟨[5], [(5, .v Yl0)]⟩ .nil .nil))))) .nil))) } }
noncomputable def i_18 : Inst := { f := 52, fn := Tryz.f52, n := 19, pds := [.rd Yv6], caps := [], res := [Yl10], h := { ca := [(14, 78)], code := (.two .nil (.two .nil (.join ⟨[3], [(3, .v Yl10)]⟩ (.two .nil (.loop ⟨[3, 8], [(3, .v Yl10), (8, .v Yl0)]⟩ .nil)) .nil))) } }
noncomputable def i_j : Inst := { f := 16, fn := Tryz.f16, n := 8, pds := [.rd Yv6, .rd Yv6], caps := [], res := [Yl1], h := { ca := [(7, 126)], code := .nil } }
noncomputable def i_1r : Inst := { f := 53, fn := Tryz.f53, n := 32, pds := [.rd Yv6, .rd Yv6, .fn 54 []], caps := [], res := [Yl1], h := { ca := [(29, 67)], code := (.two .nil (.two .nil (.join ⟨[6], [(6, .v Yl1)]⟩ (.two .nil (.loop ⟨[6, 17], [(6, .v Yl1), (17, .v Yl0)]⟩ .nil)) .nil))) } }
noncomputable def i_7 : Inst := { f := 28, fn := Tryz.f28, n := 14, pds := [.rd Yv2, .rd Yv4, .rd Yv4, .rd Yv1], caps := [], res := [Yl0], h := { ca := [(13, 128)], code := .nil } }
noncomputable def i_u : Inst := { f := 46, fn := Tryz.f46, n := 56, pds := [.rd Yv2, .rd Yv4, .rd Yv4, .rd Yv1, .fn 67 []], caps := [], res := [Yl0], h := { al := [29, 36, 49, 50], ca := [(18, 54), (26, 95), (31, 97), (38, 97), (51, 129)], code := (.two .nil (.two .nil (.join ⟨[10], [(10, .v Yl0)]⟩ (.two .nil (.loop ⟨[10, 21], [(10, .v Yl0), (21, .v Yl0)]⟩ (.two .nil (.two .nil (.two (.two .nil (.two .nil (.two .nil (.two .nil (.join ⟨[], [(53, .v Yl1)]⟩ .nil .nil))))) .nil))))) .nil))) } }
noncomputable def i_h : Inst := { f := 67, fn := Tryz.f67, n := 20, pds := [.rd Yv6, .rd Yv6], caps := [], res := [Yl1], h := { ca := [(15, 130), (17, 130), (18, 125)], code := (.two .nil (.join ⟨[4], [(4, .v Yl1)]⟩ .nil .nil)) } }
noncomputable def i_l : Inst := { f := 114, fn := Tryz.f114, n := 12, pds := [.rd Yv6], caps := [], res := [Yl10], h := { al := [9], ca := [(8, 124), (10, 132)], code := .nil } }
noncomputable def i_1j : Inst := { f := 142, fn := Tryz.f142, n := 36, pds := [.rd Yv3, .rd Yv3], caps := [], res := [Yl0], h := { ca := [(26, 118)], code := (.two .nil (.join ⟨[4], [(4, .v Yl0)]⟩ (.two .nil (.loop ⟨[4, 11], [(4, .v Yl0), (11, .v Yl0)]⟩ .nil)) .nil)) } }
noncomputable def i_23 : Inst := { f := 141, fn := Tryz.f141, n := 14, pds := [.mu true true 50 Yv3, .fn 142 []], caps := [], res := [], h := {} }
noncomputable def FTL : List Inst := [i_0, i_1g, i_2f, i_3i, i_2x, i_3f, i_30, i_2r, i_2s, i_3d, i_31, i_32, i_2y, i_3j, i_33, i_37, i_39, i_36, i_2t, i_3k, i_2g, i_2e, i_2i, i_2v, i_2h, i_2q, i_35, i_2z, i_38, i_2c, i_2m, i_2u, i_3h, i_34, i_3m, i_3l, i_2n, i_2o, i_2p, i_2l, i_2w, i_3g, i_3a, i_3e, i_2a, i_3o, i_3n, i_2b, i_2j, i_5, i_p, i_q, i_k, i_r, i_11, i_e, i_1n, i_1x, i_f, i_b, i_12, i_14, i_13, i_1p, i_20, i_c, i_19, i_1t, i_w, i_4, i_1e, i_t, i_1b, i_1z, i_1c, i_22, i_g, i_17, i_1i, i_3, i_s, i_1d, i_16, i_1l, i_1v, i_i, i_1s, i_2d, i_2k, i_3c, i_3b, i_1f, i_a, i_8, i_v, i_m, i_1a, i_9, i_n, i_1q, i_21, i_o, i_15, i_z, i_1o, i_1y, i_10, i_x, i_d, i_1m, i_1w, i_1k, i_1u, i_1h, i_24, i_27, i_25, i_y, i_1, i_2, i_29, i_26, i_28, i_6, i_18, i_j, i_1r, i_7, i_u, i_h, i_l, i_1j, i_23]
noncomputable def FT (j : Nat) : Inst := FTL.getD j i_0
noncomputable def SP (j : Nat) : Option (InVals (FT j) → Option (Tup (outTys (FT j)))) := if h132 : j = 132 then some (h132 ▸ (show InVals (FT 132) → Option (Tup (outTys (FT 132))) from fun v => sortRF v.1.1)) else none
noncomputable def SP0 (j : Nat) : Option (InVals (FT j) → Option (Tup (outTys (FT j)))) := none
theorem ft_ok0 : FTok Tryz.prog tt FT SP0 := FTok.of tt_ok (by kernel_rfl) ⟨Tryz.func5, Tryz.func5, Tryz.func6, Tryz.func25, Tryz.func29, Tryz.func68, Tryz.func69, Tryz.func64, Tryz.func62, Tryz.func111, Tryz.func70, Tryz.func112, Tryz.func115, Tryz.func116, Tryz.func72, Tryz.func119, Tryz.func118, Tryz.func36, Tryz.func31, Tryz.func74, Tryz.func71, Tryz.func117, Tryz.func143, Tryz.func37, Tryz.func32, Tryz.func78, Tryz.func92, Tryz.func121, Tryz.func122, Tryz.func35, Tryz.func77, Tryz.func149, Tryz.func106, Tryz.func144, Tryz.func65, Tryz.func61, Tryz.func30, Tryz.func73, Tryz.func22, Tryz.func58, Tryz.func47, Tryz.func93, Tryz.func76, Tryz.func75, Tryz.func120, Tryz.func8, Tryz.func33, Tryz.func34, Tryz.func8, Tryz.func63, Tryz.func23, Tryz.func38, Tryz.func11, Tryz.func43, Tryz.func84, Tryz.func80, Tryz.func44, Tryz.func85, Tryz.func126, Tryz.func86, Tryz.func87, Tryz.func127, Tryz.func128, Tryz.func129, Tryz.func94, Tryz.func134, Tryz.func130, Tryz.func42, Tryz.func54, Tryz.func83, Tryz.func125, Tryz.func45, Tryz.func88, Tryz.func89, Tryz.func131, Tryz.func132, Tryz.func90, Tryz.func59, Tryz.func39, Tryz.func79, Tryz.func9, Tryz.func40, Tryz.func81, Tryz.func123, Tryz.func82, Tryz.func124, Tryz.func10, Tryz.func41, Tryz.func26, Tryz.func66, Tryz.func113, Tryz.func140, Tryz.func14, Tryz.func27, Tryz.func12, Tryz.func46, Tryz.func91, Tryz.func133, Tryz.func15, Tryz.func49, Tryz.func94, Tryz.func134, Tryz.func95, Tryz.func96, Tryz.func50, Tryz.func85, Tryz.func126, Tryz.func97, Tryz.func51, Tryz.func98, Tryz.func99, Tryz.func135, Tryz.func100, Tryz.func136, Tryz.func101, Tryz.func102, Tryz.func137, Tryz.func145, Tryz.func103, Tryz.func104, Tryz.func138, Tryz.func146, Tryz.func150, Tryz.func160, Tryz.func105, Tryz.func52, Tryz.func16, Tryz.func53, Tryz.func28, Tryz.func46, Tryz.func67, Tryz.func114, Tryz.func142, Tryz.func141, trivial⟩ (by kernel_rfl) (fun _ _ h => by cases h)
noncomputable def F0_cmp_Compare_int (a0 : Int) (a1 : Int) : Option Int := callL tt FT SP0 118 (show InVals (FT 118) from ((a0, a1, ()), (())))
noncomputable def F0_cmp_isNaN_int (a0 : Int) : Option Bool := callL tt FT SP0 119 (show InVals (FT 119) from ((a0, ()), (())))
noncomputable def F0_slices_Compare_Lint (a0 : List Int) (a1 : List Int) : Option Int := callL tt FT SP0 131 (show InVals (FT 131) from ((a0, a1, ()), (())))
theorem U0_cmp_Compare_int (a0 : Int) (a1 : Int) : Le ((F0_cmp_isNaN_int a0).bind (fun y1 => (F0_cmp_isNaN_int a1).bind (fun y2 => (bif y1 then
 (bif y2 then
 some 0
 else some (-1))
 else (bif y2 then
 some 1
 else (bif (decide (a0 < a1)) then
 some (-1)
 else (bif (decide (a0 > a1)) then
 some 1
 else some 0))))))) (F0_cmp_Compare_int a0 a1) := callL_le (tt := tt) (FT := FT) (SP := SP0) (j := 118) rfl (by kernel_rfl)
theorem U0_cmp_isNaN_int (a0 : Int) : Le (some (a0 != a0)) (F0_cmp_isNaN_int a0) := callL_le (tt := tt) (FT := FT) (SP := SP0) (j := 119) rfl (by kernel_rfl)
noncomputable def L0_slices_Compare_Lintx0 (a0 : List Int) (a1 : List Int) (f0 : Yt23 → Option Yt26) (v1 : Int) (v2 : Int) : Option Yt26 :=
 (bif (decide (v2 < (a0.length : Int))) then
 (ix a0 v2).bind (fun z3 => (bif (decide (v2 ≥ (a1.length : Int))) then
 some (.ret 1)
 else (ix a1 v2).bind (fun z4 => (F0_cmp_Compare_int z3 z4).bind (fun y5 => (bif (y5 != 0) then
 some (.ret y5)
 else f0 (v1, (IntKind.i64.wrap (v2 + 1))))))))
 else some (.go v1))
@[simp] noncomputable def J0_slices_Compare_Lintx0 (a0 : List Int) (a1 : List Int) (v6 : Int) : Option Int :=
 (bif (decide ((a0.length : Int) < (a1.length : Int))) then
 some (-1)
 else some 0)
theorem U0_slices_Compare_Lint (a0 : List Int) (a1 : List Int) : Le (joinK (loopF (fun f s => L0_slices_Compare_Lintx0 a0 a1 f s.1 s.2) (0, 0))
 (fun s => J0_slices_Compare_Lintx0 a0 a1 s)) (F0_slices_Compare_Lint a0 a1) := callL_le (tt := tt) (FT := FT) (SP := SP0) (j := 131) rfl (by kernel_rfl)
theorem V0_isNaN (x : Int) : F0_cmp_isNaN_int x = some false := (U0_cmp_isNaN_int x).out (by simp)
theorem V0_cmp (x y : Int) : F0_cmp_Compare_int x y = some (if x < y then -1 else if y < x then 1 else 0) := (U0_cmp_Compare_int x y).out (by
 simp only [V0_isNaN, Option.bind_some]
 by_cases h1 : x < y
 ·simp [h1]
 ·by_cases h2 : y < x
  ·have h3 : y < x := h2
   simp [h1, h2, h3]
  ·simp [h1, h2])
theorem V0_sc {a b : List Int} (ha : a.length ≤ 1073741824) (hb : b.length ≤ 1073741824) : F0_slices_Compare_Lint a b = some (cmpL a b) := (U0_slices_Compare_Lint a b).out (by
 have e := loop_brk (f := fun f s => L0_slices_Compare_Lintx0 a b f s.1 s.2) a (pC b)
  (fun i x v g hx => by
   have l1 := (List.getElem?_eq_some_iff.1 hx).1
   have hw := wrap_nat (show i < 9223372036854775807 by omega)
   simp only [L0_slices_Compare_Lintx0, lt_nat hx, cond_true, ix_some hx, Option.bind_some, pC]
   cases hbi : b[i]? with
   | none =>
    have l2 : b.length ≤ i := List.getElem?_eq_none_iff.1 hbi
    have d : decide ((i : Int) ≥ (b.length : Int)) = true := by simp; omega
    simp only [d, cond_true]
   | some y =>
    have l2 := (List.getElem?_eq_some_iff.1 hbi).1
    have d : decide ((i : Int) ≥ (b.length : Int)) = false := by simp; omega
    simp only [d, cond_false, ix_some hbi, Option.bind_some, V0_cmp]
    by_cases h1 : x < y
    ·simp [h1]
    ·by_cases h2 : y < x
     ·simp [h1, h2]
     ·simp [h1, h2, hw])
  (fun v g => by simp [L0_slices_Compare_Lintx0]) 0
 rw [e]
 have h := brk_cmp b a b 0 rfl
 cases hk : brkI (pC b) a 0 with
 | some r => rw [hk] at h; simp only at h; simp [h]
 | none =>
  rw [hk] at h
  simp only at h
  rw [← h]
  by_cases hl : a.length < b.length
  ·simp [hl]
  ·simp [hl])
theorem cmp_ok (a b : List Int) (ha : a.length ≤ 1073741824) (hb : b.length ≤ 1073741824) : Ret Tryz.prog 142 36 [.d (.one (.sl false 3 (iC a))), .d (.one (.sl false 3 (iC b)))] [] (.d (.one (.v (.int .i64 (cmpL a b))))) [] :=
 callL_ok (j := 131) (v := (show InVals (FT 131) from ((a, b, ()), ()))) ft_ok0 (V0_sc ha hb)
def lays6_ren : Go.Shelf.Ren := ⟨fun | 6 => 141 | 14 => 147 | 15 => 148 | 20 => 145 | 21 => 151 | 22 => 152 | 23 => 153 | 24 => 154 | 25 => 155 | 26 => 156 | 27 => 157 | 28 => 158 | 29 => 159 | 46 => 161 | 47 => 162 | 48 => 163 | 49 => 164 | 50 => 165 | 57 => 166 | n => n, fun | 0 => 0 | 3 => 3 | 4 => 4 | 5 => 5 | 9 => 9 | 22 => 38 | 24 => 50 | 25 => 115 | 39 => 143 | 45 => 148 | 46 => 149 | 50 => 153 | 53 => 156 | 55 => 158 | 66 => 159 | 70 => 75 | 76 => 164 | 77 => 62 | n => n, fun n => n⟩
theorem lays6 : Go.Proofs.SlLaysF.n6 Tryz.prog lays6_ren := {
 mixed := by kernel_rfl,
 f6 := ⟨Tryz.f141.name, by decide, Tryz.func141.trans (congrArg some (by kernel_rfl))⟩,
 f14 := ⟨Tryz.f147.name, by decide, Tryz.func147.trans (congrArg some (by kernel_rfl))⟩,
 f15 := Tryz.func148.trans (congrArg some (by kernel_rfl)),
 f20 := ⟨Tryz.f145.name, by decide, Tryz.func145.trans (congrArg some (by kernel_rfl))⟩,
 f21 := ⟨Tryz.f151.name, by decide, Tryz.func151.trans (congrArg some (by kernel_rfl))⟩,
 f22 := ⟨Tryz.f152.name, by decide, Tryz.func152.trans (congrArg some (by kernel_rfl))⟩,
 f23 := ⟨Tryz.f153.name, by decide, Tryz.func153.trans (congrArg some (by kernel_rfl))⟩,
 f24 := ⟨Tryz.f154.name, by decide, Tryz.func154.trans (congrArg some (by kernel_rfl))⟩,
 f25 := ⟨Tryz.f155.name, by decide, Tryz.func155.trans (congrArg some (by kernel_rfl))⟩,
 f26 := ⟨Tryz.f156.name, by decide, Tryz.func156.trans (congrArg some (by kernel_rfl))⟩,
 f27 := ⟨Tryz.f157.name, by decide, Tryz.func157.trans (congrArg some (by kernel_rfl))⟩,
 f28 := Tryz.func158.trans (congrArg some (by kernel_rfl)),
 f29 := Tryz.func159.trans (congrArg some (by kernel_rfl)),
 f46 := ⟨Tryz.f161.name, by decide, Tryz.func161.trans (congrArg some (by kernel_rfl))⟩,
 f47 := Tryz.func162.trans (congrArg some (by kernel_rfl)),
 f48 := Tryz.func163.trans (congrArg some (by kernel_rfl)),
 f49 := ⟨Tryz.f164.name, by decide, Tryz.func164.trans (congrArg some (by kernel_rfl))⟩,
 f50 := ⟨Tryz.f165.name, by decide, Tryz.func165.trans (congrArg some (by kernel_rfl))⟩,
 f57 := ⟨Tryz.f166.name, by decide, Tryz.func166.trans (congrArg some (by kernel_rfl))⟩,
 t0 := Tryz.underlying0,
 a0 := Tryz.isAgg0,
 z0 := Tryz.sizeOf0,
 v0 := Tryz.zeroValue0,
 t3 := Tryz.underlying3,
 a3 := Tryz.isAgg3,
 z3 := Tryz.sizeOf3,
 v3 := Tryz.zeroValue3,
 t4 := Tryz.underlying4,
 a4 := Tryz.isAgg4,
 z4 := Tryz.sizeOf4,
 v4 := Tryz.zeroValue4,
 t5 := Tryz.underlying5,
 a5 := Tryz.isAgg5,
 z5 := Tryz.sizeOf5,
 v5 := Tryz.zeroValue5,
 t9 := Tryz.underlying9,
 a9 := Tryz.isAgg9,
 z9 := Tryz.sizeOf9,
 v9 := Tryz.zeroValue9,
 t22 := Tryz.underlying38,
 a22 := Tryz.isAgg38,
 z22 := Tryz.sizeOf38,
 v22 := Tryz.zeroValue38,
 a24 := Tryz.isAgg50,
 z24 := Tryz.sizeOf50,
 t25 := Tryz.underlying115,
 a25 := Tryz.isAgg115,
 z25 := Tryz.sizeOf115,
 v25 := Tryz.zeroValue115,
 t39 := Tryz.underlying143,
 a39 := Tryz.isAgg143,
 z39 := Tryz.sizeOf143,
 v39 := Tryz.zeroValue143,
 t45 := Tryz.underlying148,
 a45 := Tryz.isAgg148,
 z45 := Tryz.sizeOf148,
 v45 := Tryz.zeroValue148,
 t46 := Tryz.underlying149,
 a46 := Tryz.isAgg149,
 z46 := Tryz.sizeOf149,
 v46 := Tryz.zeroValue149,
 t50 := Tryz.underlying153,
 a50 := Tryz.isAgg153,
 z50 := Tryz.sizeOf153,
 v50 := Tryz.zeroValue153,
 t53 := Tryz.underlying156,
 a53 := Tryz.isAgg156,
 z53 := Tryz.sizeOf156,
 v53 := Tryz.zeroValue156,
 t55 := Tryz.underlying158,
 a55 := Tryz.isAgg158,
 z55 := Tryz.sizeOf158,
 v55 := Tryz.zeroValue158,
 t66 := Tryz.underlying159,
 a66 := Tryz.isAgg159,
 z66 := Tryz.sizeOf159,
 v66 := Tryz.zeroValue159,
 t70 := Tryz.underlying75,
 a70 := Tryz.isAgg75,
 z70 := Tryz.sizeOf75,
 v70 := Tryz.zeroValue75,
 t76 := Tryz.underlying164,
 a76 := Tryz.isAgg164,
 z76 := Tryz.sizeOf164,
 v76 := Tryz.zeroValue164,
 t77 := Tryz.underlying62,
 a77 := Tryz.isAgg62,
 z77 := Tryz.sizeOf62,
 v77 := Tryz.zeroValue62 }
theorem sp_ok : ∀ j f, SP j = some f → ∀ v r, f v = some r → RetI Tryz.prog (FT j) v r := by
 intro j f hf v r hv
 by_cases h132 : j = 132
 ·subst h132
  have hf2 : some (show InVals (FT 132) → Option (Tup (outTys (FT 132))) from fun v => sortRF v.1.1) = some f := hf
  have hf3 := Option.some.inj hf2
  subst hf3
  exact retI_sortR lays6 (by kernel_rfl) cmp_ok (by decide) (by decide) hv
 unfold SP at hf
 rw [dif_neg h132] at hf
 cases hf
theorem ft_ok : FTok Tryz.prog tt FT SP := FTok.of tt_ok (by kernel_rfl) ⟨Tryz.func5, Tryz.func5, Tryz.func6, Tryz.func25, Tryz.func29, Tryz.func68, Tryz.func69, Tryz.func64, Tryz.func62, Tryz.func111, Tryz.func70, Tryz.func112, Tryz.func115, Tryz.func116, Tryz.func72, Tryz.func119, Tryz.func118, Tryz.func36, Tryz.func31, Tryz.func74, Tryz.func71, Tryz.func117, Tryz.func143, Tryz.func37, Tryz.func32, Tryz.func78, Tryz.func92, Tryz.func121, Tryz.func122, Tryz.func35, Tryz.func77, Tryz.func149, Tryz.func106, Tryz.func144, Tryz.func65, Tryz.func61, Tryz.func30, Tryz.func73, Tryz.func22, Tryz.func58, Tryz.func47, Tryz.func93, Tryz.func76, Tryz.func75, Tryz.func120, Tryz.func8, Tryz.func33, Tryz.func34, Tryz.func8, Tryz.func63, Tryz.func23, Tryz.func38, Tryz.func11, Tryz.func43, Tryz.func84, Tryz.func80, Tryz.func44, Tryz.func85, Tryz.func126, Tryz.func86, Tryz.func87, Tryz.func127, Tryz.func128, Tryz.func129, Tryz.func94, Tryz.func134, Tryz.func130, Tryz.func42, Tryz.func54, Tryz.func83, Tryz.func125, Tryz.func45, Tryz.func88, Tryz.func89, Tryz.func131, Tryz.func132, Tryz.func90, Tryz.func59, Tryz.func39, Tryz.func79, Tryz.func9, Tryz.func40, Tryz.func81, Tryz.func123, Tryz.func82, Tryz.func124, Tryz.func10, Tryz.func41, Tryz.func26, Tryz.func66, Tryz.func113, Tryz.func140, Tryz.func14, Tryz.func27, Tryz.func12, Tryz.func46, Tryz.func91, Tryz.func133, Tryz.func15, Tryz.func49, Tryz.func94, Tryz.func134, Tryz.func95, Tryz.func96, Tryz.func50, Tryz.func85, Tryz.func126, Tryz.func97, Tryz.func51, Tryz.func98, Tryz.func99, Tryz.func135, Tryz.func100, Tryz.func136, Tryz.func101, Tryz.func102, Tryz.func137, Tryz.func145, Tryz.func103, Tryz.func104, Tryz.func138, Tryz.func146, Tryz.func150, Tryz.func160, Tryz.func105, Tryz.func52, Tryz.func16, Tryz.func53, Tryz.func28, Tryz.func46, Tryz.func67, Tryz.func114, Tryz.func142, Tryz.func141, trivial⟩ (by kernel_rfl) (sp_ok)
noncomputable def F_27 (a0 : List Int) : Option Bool := callL tt FT SP 0 (show InVals (FT 0) from ((a0, ()), (())))
noncomputable def F_29 (a0 : List Int) : Option Bool := callL tt FT SP 1 (show InVals (FT 1) from ((a0, ()), (())))
noncomputable def F_2y (a0 : List Int) : Option Yt43 := callL tt FT SP 2 (show InVals (FT 2) from ((a0, ()), (())))
noncomputable def F_3j (a0 : List Int) : Option Yt44 := callL tt FT SP 3 (show InVals (FT 3) from ((a0, ()), (())))
noncomputable def F_39 (a0 : List Int) : Option Yt36 := callL tt FT SP 4 (show InVals (FT 4) from ((a0, ()), (())))
noncomputable def F_1i : Option (List STable) := callL tt FT SP 5 (show InVals (FT 5) from ((()), (())))
noncomputable def F_a (a0x0 : List Int) (a0x1 : Int) (a0x2 : Int) (a1 : Int) : Option (Bool × Yt10 × Int × Int) := callL tt FT SP 6 (show InVals (FT 6) from (((a0x0, a0x1, a0x2, ()), a1, ()), (())))
noncomputable def F_0 (a0x0 : List Int) (a0x1 : Int) (a0x2 : Int) (a1 : Int) : Option Yt47 := callL tt FT SP 7 (show InVals (FT 7) from (((a0x0, a0x1, a0x2, ()), a1, ()), (())))
noncomputable def F_m (a0x0 : List Int) (a0x1 : Int) (a0x2 : Int) : Option Yt47 := callL tt FT SP 8 (show InVals (FT 8) from (((a0x0, a0x1, a0x2, ()), ()), (())))
noncomputable def F_3g (a0x0 : List Int) (a0x1 : Int) (a0x2 : Int) : Option Yt30 := callL tt FT SP 9 (show InVals (FT 9) from (((a0x0, a0x1, a0x2, ()), ()), (())))
noncomputable def F_d (a0x0 : List Int) (a0x1 : Int) (a0x2 : Int) (a1 : List Int) : Option Yt47 := callL tt FT SP 10 (show InVals (FT 10) from (((a0x0, a0x1, a0x2, ()), a1, ()), (())))
noncomputable def F_3c (a0x0 : List Int) (a0x1 : Int) (a0x2 : Int) (a1 : List ByteArray) : Option (ByteArray × Yt10 × Int × Int) := callL tt FT SP 11 (show InVals (FT 11) from (((a0x0, a0x1, a0x2, ()), a1, ()), (())))
noncomputable def F_3a (a0 : Int) : Option ByteArray := callL tt FT SP 12 (show InVals (FT 12) from ((a0, ()), (())))
noncomputable def F_3k (a0x0 : List Int) (a0x1 : Int) (a0x2 : Int) (a1 : List Int) : Option Yt14 := callL tt FT SP 13 (show InVals (FT 13) from (((a0x0, a0x1, a0x2, ()), a1, ()), (())))
noncomputable def F_3d (a0 : List Int) (a1 : Int) : Option Int := callL tt FT SP 14 (show InVals (FT 14) from ((a0, a1, ()), (())))
noncomputable def F_5 (a0x0 : List Int) (a0x1 : Int) (a0x2 : Int) (a1 : Int) : Option Yt16 := callL tt FT SP 15 (show InVals (FT 15) from (((a0x0, a0x1, a0x2, ()), a1, ()), (())))
noncomputable def F_1 (a0 : List (List SNode)) : Option (List SNode) := callL tt FT SP 16 (show InVals (FT 16) from ((a0, ()), (())))
noncomputable def F_f (a0 : List SNode) : Option (List SNode) := callL tt FT SP 17 (show InVals (FT 17) from ((a0, ()), (())))
noncomputable def F_36 (a0 : List Int) : Option Yt10 := callL tt FT SP 18 (show InVals (FT 18) from ((a0, ()), (())))
noncomputable def F_3l (a0x0 : List Int) (a0x1 : Int) (a0x2 : Int) (a1 : List SNode) : Option Yt14 := callL tt FT SP 19 (show InVals (FT 19) from (((a0x0, a0x1, a0x2, ()), a1, ()), (())))
noncomputable def F_2z (a0 : List SNode) : Option ((List SNode) × Yt10 × Bool) := callL tt FT SP 20 (show InVals (FT 20) from ((a0, ()), (())))
noncomputable def F_2x (a0 : List SNode) : Option Bool := callL tt FT SP 21 (show InVals (FT 21) from ((a0, ()), (())))
noncomputable def F_c (a0 : List SNode) : Option Bool := callL tt FT SP 22 (show InVals (FT 22) from ((a0, ()), (())))
noncomputable def F_2 (a0 : Int) (a1 : Int) (a2 : Int) : Option Bool := callL tt FT SP 23 (show InVals (FT 23) from ((a0, a1, a2, ()), (())))
noncomputable def F_30 (a0 : SNode) : Option Bool := callL tt FT SP 24 (show InVals (FT 24) from ((a0, ()), (())))
noncomputable def F_1f (a0 : ByteArray) : Option Bool := callL tt FT SP 25 (show InVals (FT 25) from ((a0, ()), (())))
noncomputable def F_e (a0 : Int) : Option Bool := callL tt FT SP 26 (show InVals (FT 26) from ((a0, ()), (())))
noncomputable def F_3b (a0 : Int) : Option Bool := callL tt FT SP 27 (show InVals (FT 27) from ((a0, ()), (())))
noncomputable def F_7 (a0 : List SNode) (a1 : Int) (a2 : Int) : Option Yt23 := callL tt FT SP 28 (show InVals (FT 28) from ((a0, a1, a2, ()), (())))
noncomputable def F_1d (a0 : Int) : Option Int := callL tt FT SP 29 (show InVals (FT 29) from ((a0, ()), (())))
noncomputable def F_33 (a0 : List SNode) : Option Yt10 := callL tt FT SP 30 (show InVals (FT 30) from ((a0, ()), (())))
noncomputable def F_37 (a0 : List Int) (a1 : Int) : Option Bool := callL tt FT SP 31 (show InVals (FT 31) from ((a0, a1, ()), (())))
noncomputable def F_3i (a0 : SNode) : Option Bool := callL tt FT SP 32 (show InVals (FT 32) from ((a0, ()), (())))
noncomputable def F_1g (a0x0 : List Int) (a0x1 : Int) (a0x2 : Int) (a1 : List SNode) : Option Yt14 := callL tt FT SP 33 (show InVals (FT 33) from (((a0x0, a0x1, a0x2, ()), a1, ()), (())))
noncomputable def F_3n (a0x0 : List Int) (a0x1 : Int) (a0x2 : Int) (a1 : List STable) (a2 : List SNode) (a3 : Int) : Option Yt40 := callL tt FT SP 34 (show InVals (FT 34) from (((a0x0, a0x1, a0x2, ()), a1, a2, a3, ()), (())))
noncomputable def F_3m (a0x0 : List Int) (a0x1 : Int) (a0x2 : Int) (a1 : List STable) (a2 : List SNode) : Option (SStep × Yt10 × Int × Int) := callL tt FT SP 35 (show InVals (FT 35) from (((a0x0, a0x1, a0x2, ()), a1, a2, ()), (())))
noncomputable def F_34 (a0 : List STable) (a1 : List SNode) : Option Yt24 := callL tt FT SP 36 (show InVals (FT 36) from ((a0, a1, ()), (())))
noncomputable def F_l (a0 : List STable) (a1 : List SNode) : Option Bool := callL tt FT SP 37 (show InVals (FT 37) from ((a0, a1, ()), (())))
noncomputable def F_35 (a0 : List STable) (a1 : List SNode) : Option Int := callL tt FT SP 38 (show InVals (FT 38) from ((a0, a1, ()), (())))
noncomputable def F_32 (a0 : List STable) : Option Bool := callL tt FT SP 39 (show InVals (FT 39) from ((a0, ()), (())))
noncomputable def F_38 (a0 : ByteArray) (a1 : ByteArray) : Option Bool := callL tt FT SP 40 (show InVals (FT 40) from ((a0, a1, ()), (())))
noncomputable def F_u (a0 : List STable) (a1 : List SNode) (a2 : Int) : Option Int := callL tt FT SP 41 (show InVals (FT 41) from ((a0, a1, a2, ()), (())))
noncomputable def F_1h (a0 : List SNode) (a1 : Int) : Option Yt10 := callL tt FT SP 42 (show InVals (FT 42) from ((a0, a1, ()), (())))
noncomputable def F_3h (a0 : List STable) (a1 : ByteArray) : Option Int := callL tt FT SP 43 (show InVals (FT 43) from ((a0, a1, ()), (())))
noncomputable def F_k (a0 : List STable) (a1 : List SNode) (a2 : SStep) : Option Yt22 := callL tt FT SP 44 (show InVals (FT 44) from ((a0, a1, a2, ()), (())))
noncomputable def F_1j (a0 : Int) : Option Yt23 := callL tt FT SP 45 (show InVals (FT 45) from ((a0, ()), (())))
noncomputable def F_n (a0 : List STable) (a1 : List SNode) (a2 : Int) (a3 : Int) : Option Yt22 := callL tt FT SP 46 (show InVals (FT 46) from ((a0, a1, a2, a3, ()), (())))
noncomputable def F_2v (a0 : List STable) (a1 : List SNode) (a2 : SStep) : Option Yt22 := callL tt FT SP 47 (show InVals (FT 47) from ((a0, a1, a2, ()), (())))
noncomputable def F_1e (a0 : List STable) (a1 : List SNode) (a2 : List SStep) : Option Yt29 := callL tt FT SP 48 (show InVals (FT 48) from ((a0, a1, a2, ()), (())))
noncomputable def F_1l (a0 : List STable) (a1 : List SNode) (a2 : List SNode) (a3 : List SStep) : Option Bool := callL tt FT SP 49 (show InVals (FT 49) from ((a0, a1, a2, a3, ()), (())))
noncomputable def F_p (a0 : List STable) (a1 : List SNode) : Option Bool := callL tt FT SP 50 (show InVals (FT 50) from ((a0, a1, ()), (())))
noncomputable def F_1y (a0 : List STable) (a1 : List SNode) : Option Int := callL tt FT SP 51 (show InVals (FT 51) from ((a0, a1, ()), (())))
noncomputable def F_o (a0 : List STable) : Option Bool := callL tt FT SP 52 (show InVals (FT 52) from ((a0, ()), (())))
noncomputable def F_12 (a0 : ByteArray) : Option Bool := callL tt FT SP 53 (show InVals (FT 53) from ((a0, ()), (())))
noncomputable def F_4 (a0 : Int) (a1 : Int) (a2 : Int) : Option Bool := callL tt FT SP 54 (show InVals (FT 54) from ((a0, a1, a2, ()), (())))
noncomputable def F_h (a0 : List SNode) : Option Bool := callL tt FT SP 55 (show InVals (FT 55) from ((a0, ()), (())))
noncomputable def F_2d (a0 : List SNode) : Option Bool := callL tt FT SP 56 (show InVals (FT 56) from ((a0, (()), ()), (())))
noncomputable def F_2m (a0 : List SNode) : Option Int := callL tt FT SP 57 (show InVals (FT 57) from ((a0, (()), ()), (())))
noncomputable def F_1s (a0 : SNode) : Option Bool := callL tt FT SP 58 (show InVals (FT 58) from ((a0, ()), (())))
noncomputable def F_1p (a0 : SNode) : Option Bool := callL tt FT SP 59 (show InVals (FT 59) from ((a0, ()), (())))
noncomputable def F_b (a0 : Int) : Option Bool := callL tt FT SP 60 (show InVals (FT 60) from ((a0, ()), (())))
noncomputable def F_14 (a0 : Int) : Option Bool := callL tt FT SP 61 (show InVals (FT 61) from ((a0, ()), (())))
noncomputable def F_13 (a0 : Int) : Option Bool := callL tt FT SP 62 (show InVals (FT 62) from ((a0, ()), (())))
noncomputable def F_2f (a0 : List Int) : Option Bool := callL tt FT SP 63 (show InVals (FT 63) from ((a0, (()), ()), (())))
noncomputable def F_2p (a0 : List Int) : Option Int := callL tt FT SP 64 (show InVals (FT 64) from ((a0, (()), ()), (())))
noncomputable def F_1q (a0 : Int) : Option Bool := callL tt FT SP 65 (show InVals (FT 65) from ((a0, ()), (())))
noncomputable def F_16 (a0 : SNode) (a1 : SNode) : Option Bool := callL tt FT SP 66 (show InVals (FT 66) from ((a0, a1, ()), (())))
noncomputable def F_s (a0 : List Int) (a1 : List Int) : Option Bool := callL tt FT SP 67 (show InVals (FT 67) from ((a0, a1, ()), (())))
noncomputable def F_8 (a0 : List SNode) (a1 : Int) (a2 : Int) : Option Int := callL tt FT SP 68 (show InVals (FT 68) from ((a0, a1, a2, ()), (())))
noncomputable def F_x (a0 : Int) : Option Int := callL tt FT SP 69 (show InVals (FT 69) from ((a0, ()), (())))
noncomputable def F_r (a0 : List STable) (a1 : List SNode) (a2 : Int) : Option Int := callL tt FT SP 70 (show InVals (FT 70) from ((a0, a1, a2, ()), (())))
noncomputable def F_q (a0 : List SNode) (a1 : Int) : Option Yt10 := callL tt FT SP 71 (show InVals (FT 71) from ((a0, a1, ()), (())))
noncomputable def F_18 (a0 : List STable) (a1 : ByteArray) : Option Int := callL tt FT SP 72 (show InVals (FT 72) from ((a0, a1, ()), (())))
noncomputable def F_2o (a0 : List STable) (a1x0x0 : ByteArray) : Option Yt46 := callL tt FT SP 73 (show InVals (FT 73) from ((a0, ((a1x0x0, ()), ()), ()), (())))
noncomputable def F_26 (a0 : STable) (c0x0 : ByteArray) : Option (Bool × ByteArray) := callL tt FT SP 74 (show InVals (FT 74) from ((a0, ()), ((c0x0, ()), ())))
noncomputable def F_1b (a0 : List Int) : Option Int := callL tt FT SP 75 (show InVals (FT 75) from ((a0, ()), (())))
noncomputable def F_1t (a0 : List STable) (a1 : List SNode) (a2 : List SStep) : Option Yt29 := callL tt FT SP 76 (show InVals (FT 76) from ((a0, a1, a2, ()), (())))
noncomputable def F_6 (a0 : List SNode) : Option (List SNode) := callL tt FT SP 77 (show InVals (FT 77) from ((a0, ()), (())))
noncomputable def F_1a (a0 : List Int) : Option Yt10 := callL tt FT SP 78 (show InVals (FT 78) from ((a0, ()), (())))
noncomputable def F_1k (a0 : List STable) (a1 : List SNode) (a2 : SStep) : Option Yt22 := callL tt FT SP 79 (show InVals (FT 79) from ((a0, a1, a2, ()), (())))
noncomputable def F_1z (a0 : List STable) (a1 : List SNode) (a2 : SStep) : Option Yt22 := callL tt FT SP 80 (show InVals (FT 80) from ((a0, a1, a2, ()), (())))
noncomputable def F_19 (a0 : List STable) (a1 : List SNode) (a2 : SStep) : Option Yt22 := callL tt FT SP 81 (show InVals (FT 81) from ((a0, a1, a2, ()), (())))
noncomputable def F_25 (a0 : Int) : Option Yt23 := callL tt FT SP 82 (show InVals (FT 82) from ((a0, ()), (())))
noncomputable def F_3 (a0 : List (List SNode)) : Option (List SNode) := callL tt FT SP 83 (show InVals (FT 83) from ((a0, ()), (())))
noncomputable def F_2k (a1 : Int) : Option (List SNode) := callL tt FT SP 84 (show InVals (FT 84) from (([], a1, ()), (())))
noncomputable def F_1v (a0 : List SNode) (a1 : List SNode) : Option Bool := callL tt FT SP 85 (show InVals (FT 85) from ((a0, a1, ()), (())))
noncomputable def F_2i (a0 : List SNode) (a1 : List SNode) : Option Bool := callL tt FT SP 86 (show InVals (FT 86) from ((a0, a1, (()), ()), (())))
noncomputable def F_2w (a0 : List STable) (a1 : List SNode) (a2 : List SNode) (a3 : List SStep) : Option Bool := callL tt FT SP 87 (show InVals (FT 87) from ((a0, a1, a2, a3, ()), (())))
noncomputable def F_31 (a0 : List SNode) (a1 : List SNode) : Option Bool := callL tt FT SP 88 (show InVals (FT 88) from ((a0, a1, ()), (())))
noncomputable def F_3f (a0 : SNode) (a1 : SNode) : Option Bool := callL tt FT SP 89 (show InVals (FT 89) from ((a0, a1, ()), (())))
noncomputable def F_3e (a0 : List Int) (a1 : List Int) : Option Bool := callL tt FT SP 90 (show InVals (FT 90) from ((a0, a1, ()), (())))
noncomputable def F_28 (a0 : List Int) (a1 : Int) : Option Int := callL tt FT SP 91 (show InVals (FT 91) from ((a0, a1, ()), (())))
noncomputable def F_y (a0 : List SNode) (a1 : List Int) : Option Yt22 := callL tt FT SP 92 (show InVals (FT 92) from ((a0, a1, ()), (())))
noncomputable def F_1o (a0 : List STable) (a1 : List SNode) (a2 : List SNode) (a3 : Int) : Option Int := callL tt FT SP 93 (show InVals (FT 93) from ((a0, a1, a2, a3, ()), (())))
noncomputable def F_21 (a0 : List STable) (a1 : List SNode) (a2 : List SNode) (a3 : Int) : Option Int := callL tt FT SP 94 (show InVals (FT 94) from ((a0, a1, a2, a3, (()), ()), (())))
noncomputable def F_11 (a0 : List STable) (a1 : Int) : Option Yt41 := callL tt FT SP 95 (show InVals (FT 95) from ((a0, a1, ()), (())))
noncomputable def F_17 (a0x0 : Int) : Option Yt23 := callL tt FT SP 96 (show InVals (FT 96) from (((a0x0, ()), ()), (())))
noncomputable def F_g (a0 : List STable) (a1 : List Yt11) (a2 : List SNode) : Option Yt33 := callL tt FT SP 97 (show InVals (FT 97) from ((a0, a1, a2, ()), (())))
noncomputable def F_1w (a0 : List STable) (a1 : List Yt11) : Option Bool := callL tt FT SP 98 (show InVals (FT 98) from ((a0, a1, ()), (())))
noncomputable def F_2g (a0 : List Int) : Option Bool := callL tt FT SP 99 (show InVals (FT 99) from ((a0, (()), ()), (())))
noncomputable def F_2q (a0 : List Int) : Option Int := callL tt FT SP 100 (show InVals (FT 100) from ((a0, (()), ()), (())))
noncomputable def F_1x (a0 : Int) : Option Bool := callL tt FT SP 101 (show InVals (FT 101) from ((a0, ()), (())))
noncomputable def F_24 (a0 : Int) : Option Bool := callL tt FT SP 102 (show InVals (FT 102) from ((a0, ()), (())))
noncomputable def F_22 (a0 : List SNode) : Option Bool := callL tt FT SP 103 (show InVals (FT 103) from ((a0, ()), (())))
noncomputable def F_2e (a0 : List SNode) : Option Bool := callL tt FT SP 104 (show InVals (FT 104) from ((a0, (()), ()), (())))
noncomputable def F_2n (a0 : List SNode) : Option Int := callL tt FT SP 105 (show InVals (FT 105) from ((a0, (()), ()), (())))
noncomputable def F_23 (a0 : SNode) : Option Bool := callL tt FT SP 106 (show InVals (FT 106) from ((a0, ()), (())))
noncomputable def F_9 (a0 : List STable) (a1 : List Yt11) (a2 : List SNode) (a3 : Int) : Option Yt25 := callL tt FT SP 107 (show InVals (FT 107) from ((a0, a1, a2, a3, ()), (())))
noncomputable def F_1r (a0 : SNode) (a1 : Int) : Option Bool := callL tt FT SP 108 (show InVals (FT 108) from ((a0, a1, ()), (())))
noncomputable def F_2c (a0 : List Yt10) : Option Yt10 := callL tt FT SP 109 (show InVals (FT 109) from ((a0, ()), (())))
noncomputable def F_2l (a1 : Int) : Option Yt10 := callL tt FT SP 110 (show InVals (FT 110) from (([], a1, ()), (())))
noncomputable def F_2b (a0 : List Yt11) : Option Yt11 := callL tt FT SP 111 (show InVals (FT 111) from ((a0, ()), (())))
noncomputable def F_2j (a1 : Int) : Option Yt11 := callL tt FT SP 112 (show InVals (FT 112) from (([], a1, ()), (())))
noncomputable def F_2a (a0 : List Yt10) : Option Yt11 := callL tt FT SP 113 (show InVals (FT 113) from ((a0, ()), (())))
noncomputable def F_2s (a0 : List Yt10) (a1x0x0 : Int) (a1x0x1 : ByteArray) (a1x0x2 : Int) (a1x0x3 : Int) (a1x0x4 : Int) (a1x0x5 : Bool) (a1x0x6 : List Int) : Option Yt9 := callL tt FT SP 114 (show InVals (FT 114) from ((a0, ((a1x0x0, a1x0x1, a1x0x2, a1x0x3, a1x0x4, a1x0x5, a1x0x6, ()), ()), ()), (())))
noncomputable def F_2u (a0 : List Yt10) (a1 : Int) (a2x0x0 : Int) (a2x0x1 : ByteArray) (a2x0x2 : Int) (a2x0x3 : Int) (a2x0x4 : Int) (a2x0x5 : Bool) (a2x0x6 : List Int) : Option Yt9 := callL tt FT SP 115 (show InVals (FT 115) from ((a0, a1, ((a2x0x0, a2x0x1, a2x0x2, a2x0x3, a2x0x4, a2x0x5, a2x0x6, ()), ()), ()), (())))
noncomputable def F_1c (a0 : List Yt10) (a1 : Int) (a2 : Int) (a3x0x0 : Int) (a3x0x1 : ByteArray) (a3x0x2 : Int) (a3x0x3 : Int) (a3x0x4 : Int) (a3x0x5 : Bool) (a3x0x6 : List Int) : Option Yt9 := callL tt FT SP 116 (show InVals (FT 116) from ((a0, a1, a2, ((a3x0x0, a3x0x1, a3x0x2, a3x0x3, a3x0x4, a3x0x5, a3x0x6, ()), ()), ()), (())))
noncomputable def F_i (a0 : List Int) (a1 : List Int) (c0x0 : Int) (c0x1 : ByteArray) (c0x2 : Int) (c0x3 : Int) (c0x4 : Int) (c0x5 : Bool) (c0x6 : List Int) : Option Yt20 := callL tt FT SP 117 (show InVals (FT 117) from ((a0, a1, ()), ((c0x0, c0x1, c0x2, c0x3, c0x4, c0x5, c0x6, ()), ())))
noncomputable def F_v (a0 : Int) (a1 : Int) : Option Int := callL tt FT SP 118 (show InVals (FT 118) from ((a0, a1, ()), (())))
noncomputable def F_w (a0 : Int) : Option Bool := callL tt FT SP 119 (show InVals (FT 119) from ((a0, ()), (())))
noncomputable def F_j (a0 : List Yt10) (a1 : Int) (a2 : Int) (a3 : Int) (a4x0x0 : Int) (a4x0x1 : ByteArray) (a4x0x2 : Int) (a4x0x3 : Int) (a4x0x4 : Int) (a4x0x5 : Bool) (a4x0x6 : List Int) : Option Yt9 := callL tt FT SP 120 (show InVals (FT 120) from ((a0, a1, a2, a3, ((a4x0x0, a4x0x1, a4x0x2, a4x0x3, a4x0x4, a4x0x5, a4x0x6, ()), ()), ()), (())))
noncomputable def F_2t (a0 : List Yt10) (a1 : Int) (a2 : Int) (a3 : Int) (a4x0x0 : Int) (a4x0x1 : ByteArray) (a4x0x2 : Int) (a4x0x3 : Int) (a4x0x4 : Int) (a4x0x5 : Bool) (a4x0x6 : List Int) : Option Yt9 := callL tt FT SP 121 (show InVals (FT 121) from ((a0, a1, a2, a3, ((a4x0x0, a4x0x1, a4x0x2, a4x0x3, a4x0x4, a4x0x5, a4x0x6, ()), ()), ()), (())))
noncomputable def F_t (a0 : List Yt10) (a1 : Int) (a2 : Int) (a3 : Int) (a4x0x0 : Int) (a4x0x1 : ByteArray) (a4x0x2 : Int) (a4x0x3 : Int) (a4x0x4 : Int) (a4x0x5 : Bool) (a4x0x6 : List Int) : Option Yt9 := callL tt FT SP 122 (show InVals (FT 122) from ((a0, a1, a2, a3, ((a4x0x0, a4x0x1, a4x0x2, a4x0x3, a4x0x4, a4x0x5, a4x0x6, ()), ()), ()), (())))
noncomputable def F_1m (a0 : List Yt10) (a1 : List Int) : Option Int := callL tt FT SP 123 (show InVals (FT 123) from ((a0, a1, ()), (())))
noncomputable def F_15 (a0 : List Yt10) : Option Yt11 := callL tt FT SP 124 (show InVals (FT 124) from ((a0, ()), (())))
noncomputable def F_z (a0 : List Yt10) (a1 : List Yt10) : Option Bool := callL tt FT SP 125 (show InVals (FT 125) from ((a0, a1, ()), (())))
noncomputable def F_2h (a0 : List Yt10) (a1 : List Yt10) : Option Bool := callL tt FT SP 126 (show InVals (FT 126) from ((a0, a1, (()), ()), (())))
noncomputable def F_1n (a0 : List STable) (a1 : List SNode) (a2 : List SNode) (a3 : Int) : Option Int := callL tt FT SP 127 (show InVals (FT 127) from ((a0, a1, a2, a3, ()), (())))
noncomputable def F_20 (a0 : List STable) (a1 : List SNode) (a2 : List SNode) (a3 : Int) : Option Int := callL tt FT SP 128 (show InVals (FT 128) from ((a0, a1, a2, a3, (()), ()), (())))
noncomputable def F_1u (a0 : List Yt10) (a1 : List Yt10) : Option Bool := callL tt FT SP 129 (show InVals (FT 129) from ((a0, a1, ()), (())))
noncomputable def F_10 (a0 : List Yt10) : Option Yt11 := callL tt FT SP 130 (show InVals (FT 130) from ((a0, ()), (())))
noncomputable def F_3o (a0 : List Int) (a1 : List Int) : Option Int := callL tt FT SP 131 (show InVals (FT 131) from ((a0, a1, ()), (())))
noncomputable def F_2r (a0 : List Yt10) : Option Yt11 := callL tt FT SP 132 (show InVals (FT 132) from ((a0, (()), ()), (())))
noncomputable def L_1u (a0 : List Int) (f0 : Yt42 → Option (Ex Bool Yt10)) (v5 : List Int) (v6 : Int) : Option (Ex Bool Yt10) :=
 (bif (decide (v6 < 40)) then
 (F_28 a0 v6).bind (fun y7 => (remx y7 5).bind (fun z8 => (apx v5 ([z8])).bind (fun z9 => f0 (z9, (IntKind.i64.wrap (v6 + 1))))))
 else some (.go v5))
@[simp] noncomputable def J_3q (v15 : Bool) : Option Bool :=
 some v15
@[simp] noncomputable def J_1o (y2 : Yt43) (v10 : List Int) : Option Bool :=
 (F_y y2.2.1 v10).bind (fun y11 => (F_y y2.2.2.1 v10).bind (fun y12 => joinK ((bif y11.2 then
 (bif y12.2 then
 (F_1o y2.1 y11.1 y12.1 5).bind (fun y13 => (bif (y13 == (-1)) then
 (F_1n y2.1 y11.1 y12.1 5).bind (fun y14 => some (.go (y14 == (-1))))
 else some (.go false)))
 else some (.go false))
 else some (.go false)))
 (fun s => J_3q s)))
theorem U_1h (a0 : List Int) : Le ((F_29 a0).bind (fun y1 => (bif y1 then
 some true
 else (F_2y a0).bind (fun y2 => (F_1l y2.1 y2.2.1 y2.2.2.1 y2.2.2.2).bind (fun y3 => (F_2w y2.1 y2.2.1 y2.2.2.1 y2.2.2.2).bind (fun y4 => (bif (y3 != y4) then
 some false
 else (bif (!y3) then
 some true
 else joinK (loopF (fun f s => L_1u a0 f s.1 s.2) ([], 0))
 (fun s => J_1o y2 s))))))))) (F_27 a0) := callL_le (tt := tt) (FT := FT) (SP := SP) (j := 0) rfl (by kernel_rfl)
theorem U_1j (a0 : List Int) : Le (some (decide ((a0.length : Int) > 1048576))) (F_29 a0) := callL_le (tt := tt) (FT := FT) (SP := SP) (j := 1) rfl (by kernel_rfl)
@[simp] noncomputable def J_2h (y1 : Yt44) (y4 : Yt29) (v7 : List SStep) (v8 : List Int) (v9 : Int) (v10 : Int) : Option Yt43 :=
 (F_a v8 v9 v10 5).bind (fun y11 => (bif y11.1 then
 (F_1g y11.2.1 y11.2.2.1 y11.2.2.2 y4.1).bind (fun y12 => some (y1.2.2.2.1, y1.2.2.2.2, y12.1, v7))
 else some (y1.2.2.2.1, y1.2.2.2.2, y4.1, v7)))
theorem U_2h (a0 : List Int) : Le ((F_3j a0).bind (fun y1 => (F_0 y1.1 y1.2.1 y1.2.2.1 4).bind (fun y2 => (F_3n y2.2.1 y2.2.2.1 y2.2.2.2 y1.2.2.2.1 y1.2.2.2.2 y2.1).bind (fun y3 => (F_1e y1.2.2.2.1 y1.2.2.2.2 y3.1).bind (fun y4 => joinK ((F_0 y3.2.1 y3.2.2.1 y3.2.2.2 4).bind (fun y5 => (bif (decide (y5.1 > 0)) then
 (tkx y3.1 y4.2).bind (fun z6 => some (.go (z6, y5.2.1, y5.2.2.1, y5.2.2.2)))
 else some (.go (y3.1, y5.2.1, y5.2.2.1, y5.2.2.2)))))
 (fun s => J_2h y1 y4 s.1 s.2.1 s.2.2.1 s.2.2.2)))))) (F_2y a0) := callL_le (tt := tt) (FT := FT) (SP := SP) (j := 2) rfl (by kernel_rfl)
@[simp] noncomputable def J_35 (a0 : List Int) (v5 : List STable) (v6 : List Int) (v7 : Int) (v8 : Int) : Option Yt44 :=
 (F_3k v6 v7 v8 a0).bind (fun y9 => (F_3l y9.2.1 y9.2.2.1 y9.2.2.2 y9.1).bind (fun y10 => (F_a y10.2.1 y10.2.2.1 y10.2.2.2 15).bind (fun y11 => (bif y11.1 then
 (F_1g y11.2.1 y11.2.2.1 y11.2.2.2 y10.1).bind (fun y12 => some (y12.2.1, y12.2.2.1, y12.2.2.2, v5, y12.1))
 else some (y11.2.1, y11.2.2.1, y11.2.2.2, v5, y10.1)))))
theorem U_3i (a0 : List Int) : Le ((F_39 a0).bind (fun y1 => (F_1i).bind (fun y2 => joinK ((F_a y1.1 y1.2.1 y1.2.2 15).bind (fun y3 => (bif y3.1 then
 (F_3g y3.2.1 y3.2.2.1 y3.2.2.2).bind (fun y4 => some (.go (y4.1, y4.2.1, y4.2.2.1, y4.2.2.2)))
 else some (.go (y2, y3.2.1, y3.2.2.1, y3.2.2.2)))))
 (fun s => J_35 a0 s.1 s.2.1 s.2.2.1 s.2.2.2)))) (F_3j a0) := callL_le (tt := tt) (FT := FT) (SP := SP) (j := 3) rfl (by kernel_rfl)
@[simp] noncomputable def J_4t (a0 : List Int) (v1 : Int) (v2 : Int) (f0 : Yt23 → Option (Ex Yt36 Int)) (v3 : Bool) : Option (Ex Yt36 Int) :=
 (bif v3 then
 (ix a0 v2).bind (fun z4 => f0 ((andV .i64 (IntKind.i64.wrap ((IntKind.i64.wrap ((IntKind.i64.wrap (v1 * 149)) + (IntKind.i64.wrap z4))) + 11)) 1073741823), (IntKind.i64.wrap (v2 + 1))))
 else some (.go v1))
noncomputable def L_24 (a0 : List Int) (f0 : Yt23 → Option (Ex Yt36 Int)) (v1 : Int) (v2 : Int) : Option (Ex Yt36 Int) :=
 joinK ((bif (decide (v2 < (a0.length : Int))) then
 some (.go (decide (v2 < 4000)))
 else some (.go false)))
 (fun s => J_4t a0 v1 v2 f0 s)
@[simp] noncomputable def J_4s (a0 : List Int) (v5 : Int) : Option Yt36 :=
 some (a0, 0, v5)
theorem U_2z (a0 : List Int) : Le (joinK (loopF (fun f s => L_24 a0 f s.1 s.2) ((IntKind.i64.wrap (844844 + (a0.length : Int))), 0))
 (fun s => J_4s a0 s)) (F_39 a0) := callL_le (tt := tt) (FT := FT) (SP := SP) (j := 4) rfl (by kernel_rfl)
theorem U_3g : Le (some ([((⟨#[116, 49]⟩ : ByteArray), (2, ())), ((⟨#[116, 50]⟩ : ByteArray), (3, ())), ((⟨#[116, 51]⟩ : ByteArray), (1, ()))])) (F_1i) := callL_le (tt := tt) (FT := FT) (SP := SP) (j := 5) rfl (by kernel_rfl)
theorem U_32 (a0x0 : List Int) (a0x1 : Int) (a0x2 : Int) (a1 : Int) : Le ((F_0 a0x0 a0x1 a0x2 a1).bind (fun y1 => some ((y1.1 == 0), y1.2.1, y1.2.2.1, y1.2.2.2))) (F_a a0x0 a0x1 a0x2 a1) := callL_le (tt := tt) (FT := FT) (SP := SP) (j := 6) rfl (by kernel_rfl)
theorem U_2t (a0x0 : List Int) (a0x1 : Int) (a0x2 : Int) (a1 : Int) : Le ((bif (decide (a1 ≤ 0)) then
 some (0, a0x0, a0x1, a0x2)
 else (bif (decide (a1 ≤ 256)) then
 (F_m a0x0 a0x1 a0x2).bind (fun y1 => (remx y1.1 a1).bind (fun z2 => some (z2, y1.2.1, y1.2.2.1, y1.2.2.2)))
 else (F_m a0x0 a0x1 a0x2).bind (fun y3 => (F_m y3.2.1 y3.2.2.1 y3.2.2.2).bind (fun y4 => (F_m y4.2.1 y4.2.2.1 y4.2.2.2).bind (fun y5 => (remx (IntKind.i64.wrap ((IntKind.i64.wrap ((IntKind.i64.wrap (y3.1 * 65536)) + (IntKind.i64.wrap (y4.1 * 256)))) + y5.1)) a1).bind (fun z6 => some (z6, y5.2.1, y5.2.2.1, y5.2.2.2)))))))) (F_0 a0x0 a0x1 a0x2 a1) := callL_le (tt := tt) (FT := FT) (SP := SP) (j := 7) rfl (by kernel_rfl)
@[simp] noncomputable def J_2r (v4 : Int) (v5 : List Int) (v6 : Int) (v7 : Int) : Option Yt47 :=
 some (v4, v5, v6, v7)
theorem U_2u (a0x0 : List Int) (a0x1 : Int) (a0x2 : Int) : Le ((shrV .i64 (IntKind.i64.wrap ((IntKind.i64.wrap (a0x2 * 6364136223846793005)) + 1442695040888963407)) 33).bind (fun z1 => (shrV .i64 (IntKind.i64.wrap ((IntKind.i64.wrap (a0x2 * 6364136223846793005)) + 1442695040888963407)) 45).bind (fun z2 => joinK ((bif (decide (a0x1 < (a0x0.length : Int))) then
 (ix a0x0 a0x1).bind (fun z3 => some (.go ((andV .i64 (IntKind.i64.wrap ((andV .i64 (xorV .i64 z1 z2) 255) + (IntKind.i64.wrap z3))) 255), a0x0, (IntKind.i64.wrap (a0x1 + 1)), (IntKind.i64.wrap ((IntKind.i64.wrap (a0x2 * 6364136223846793005)) + 1442695040888963407)))))
 else some (.go ((andV .i64 (xorV .i64 z1 z2) 255), a0x0, a0x1, (IntKind.i64.wrap ((IntKind.i64.wrap (a0x2 * 6364136223846793005)) + 1442695040888963407))))))
 (fun s => J_2r s.1 s.2.1 s.2.2.1 s.2.2.2)))) (F_m a0x0 a0x1 a0x2) := callL_le (tt := tt) (FT := FT) (SP := SP) (j := 8) rfl (by kernel_rfl)
noncomputable def L_27 (f0 : Yt30 → Option (Ex Yt30 Yt30)) (v12 : List STable) (v13 : List Int) (v14 : Int) (v15 : Int) : Option (Ex Yt30 Yt30) :=
 (F_0 v13 v14 v15 2).bind (fun y16 => (bif (decide ((v12.length : Int) < (IntKind.i64.wrap (8 + y16.1)))) then
 (F_3a (v12.length : Int)).bind (fun y17 => (addx (⟨#[122]⟩ : ByteArray) y17).bind (fun z18 => (apx v12 ([(z18, (1, ()))])).bind (fun z19 => f0 (z19, y16.2.1, y16.2.2.1, y16.2.2.2))))
 else some (.go (v12, y16.2.1, y16.2.2.1, y16.2.2.2))))
@[simp] noncomputable def J_4z (v20 : List STable) (v21 : List Int) (v22 : Int) (v23 : Int) : Option Yt30 :=
 some (v20, v21, v22, v23)
theorem U_3e (a0x0 : List Int) (a0x1 : Int) (a0x2 : Int) : Le ((F_1i).bind (fun y1 => joinK ((F_a a0x0 a0x1 a0x2 6).bind (fun y2 => (bif y2.1 then
 (F_0 y2.2.1 y2.2.2.1 y2.2.2.2 3).bind (fun y3 => (F_0 y3.2.1 y3.2.2.1 y3.2.2.2 4).bind (fun y4 => (bif (y4.1 == 0) then
 (F_d y4.2.1 y4.2.2.1 y4.2.2.2 ([0, 1, 6, 7])).bind (fun y5 => (ix y1 y3.1).bind (fun z6 => (ix y1 y3.1).bind (fun z7 => some (.go ((y1.set (y3.1).toNat (z7.1, (y5.1, z7.2.2))), y5.2.1, y5.2.2.1, y5.2.2.2)))))
 else (bif (y4.1 == 1) then
 (F_3c y4.2.1 y4.2.2.1 y4.2.2.2 ([ByteArray.empty, (⟨#[116, 49]⟩ : ByteArray), (⟨#[116, 57]⟩ : ByteArray), (⟨#[65]⟩ : ByteArray)])).bind (fun y8 => (ix y1 y3.1).bind (fun z9 => (ix y1 y3.1).bind (fun z10 => some (.go ((y1.set (y3.1).toNat (y8.1, z10.2)), y8.2.1, y8.2.2.1, y8.2.2.2)))))
 else (bif (y4.1 == 2) then
 (tkx y1 y3.1).bind (fun z11 => some (.go (z11, y4.2.1, y4.2.2.1, y4.2.2.2)))
 else (bif (y4.1 == 3) then
 loopF (fun f s => L_27 f s.1 s.2.1 s.2.2.1 s.2.2.2) (y1, y4.2.1, y4.2.2.1, y4.2.2.2)
 else some (.go (y1, y4.2.1, y4.2.2.1, y4.2.2.2))))))))
 else some (.go (y1, y2.2.1, y2.2.2.1, y2.2.2.2)))))
 (fun s => J_4z s.1 s.2.1 s.2.2.1 s.2.2.2))) (F_3g a0x0 a0x1 a0x2) := callL_le (tt := tt) (FT := FT) (SP := SP) (j := 9) rfl (by kernel_rfl)
theorem U_33 (a0x0 : List Int) (a0x1 : Int) (a0x2 : Int) (a1 : List Int) : Le ((F_0 a0x0 a0x1 a0x2 (a1.length : Int)).bind (fun y1 => (ix a1 y1.1).bind (fun z2 => some (z2, y1.2.1, y1.2.2.1, y1.2.2.2)))) (F_d a0x0 a0x1 a0x2 a1) := callL_le (tt := tt) (FT := FT) (SP := SP) (j := 10) rfl (by kernel_rfl)
theorem U_34 (a0x0 : List Int) (a0x1 : Int) (a0x2 : Int) (a1 : List ByteArray) : Le ((F_0 a0x0 a0x1 a0x2 (a1.length : Int)).bind (fun y1 => (ix a1 y1.1).bind (fun z2 => some (z2, y1.2.1, y1.2.2.1, y1.2.2.2)))) (F_3c a0x0 a0x1 a0x2 a1) := callL_le (tt := tt) (FT := FT) (SP := SP) (j := 11) rfl (by kernel_rfl)
@[simp] noncomputable def J_2t (v1 : Int) (v2 : ByteArray) (f0 : Yt46 → Option (Ex ByteArray ByteArray)) (v4 : Int) : Option (Ex ByteArray ByteArray) :=
 (addx (bsOf ([(IntKind.u8.wrap (IntKind.i64.wrap (48 + v4)))])) v2).bind (fun z5 => (quox v1 10).bind (fun z6 => f0 (z6, z5)))
noncomputable def L_25 (f0 : Yt46 → Option (Ex ByteArray ByteArray)) (v1 : Int) (v2 : ByteArray) : Option (Ex ByteArray ByteArray) :=
 (bif (v1 != 0) then
 (remx v1 10).bind (fun z3 => joinK ((bif (decide (z3 < 0)) then
 some (.go (IntKind.i64.wrap (0 - z3)))
 else some (.go z3)))
 (fun s => J_2t v1 v2 f0 s))
 else some (.go v2))
@[simp] noncomputable def J_2s (a0 : Int) (v7 : ByteArray) : Option ByteArray :=
 (bif (decide (a0 < 0)) then
 (addx (⟨#[45]⟩ : ByteArray) v7).bind (fun z8 => some z8)
 else some v7)
theorem U_30 (a0 : Int) : Le ((bif (a0 == 0) then
 some (⟨#[48]⟩ : ByteArray)
 else joinK (loopF (fun f s => L_25 f s.1 s.2) (a0, ByteArray.empty))
 (fun s => J_2s a0 s))) (F_3a a0) := callL_le (tt := tt) (FT := FT) (SP := SP) (j := 12) rfl (by kernel_rfl)
noncomputable def L_29 (v6 : Int) (f1 : (Int × ByteArray × Int × Int × Int × Bool × Yt10 × Int × Yt10 × Int × Int) → Option (Ex (Ex (Ex (Ex Yt14 Yt14) Yt16) Yt19) Yt28)) (v16 : Int) (v17 : ByteArray) (v18 : Int) (v19 : Int) (v20 : Int) (v21 : Bool) (v22 : List Int) (v23 : Int) (v24 : List Int) (v25 : Int) (v26 : Int) : Option (Ex (Ex (Ex (Ex Yt14 Yt14) Yt16) Yt19) Yt28) :=
 (bif (decide (v23 > 0)) then
 (F_0 v24 v25 v26 v6).bind (fun y27 => (apx v22 ([y27.1])).bind (fun z28 => f1 (v16, v17, v18, v19, v20, v21, z28, (IntKind.i64.wrap (v23 - 1)), y27.2.1, y27.2.2.1, y27.2.2.2)))
 else some (.go (v16, v17, v18, v19, v20, v21, v22, v24, v25, v26)))
@[simp] noncomputable def J_56 (v29 : Int) (v30 : ByteArray) (v31 : Int) (v32 : Int) (v33 : Int) (v34 : Bool) (v35 : List Int) (v36 : List Int) (v37 : Int) (v38 : Int) : Option (Ex (Ex (Ex Yt14 Yt14) Yt16) Yt19) :=
 some (.go ((v35.length : Int), v29, v30, v31, v32, v33, v34, v35, v36, v37, v38))
@[simp] noncomputable def J_33 (v5 : List SNode) (v41 : Int) (v42 : Int) (v43 : ByteArray) (v44 : Int) (v45 : Int) (v46 : Int) (v47 : Bool) (v48 : List Int) (v49 : List Int) (v50 : Int) (v51 : Int) : Option (Ex (Ex Yt14 Yt14) Yt16) :=
 (F_1 ([[(v42, (v43, (v44, (v45, (v46, (v47, (v48, ())))))))], v5])).bind (fun y52 => some (.go (y52, v41, v49, v50, v51)))
@[simp] noncomputable def J_32 (v7 : Int) (f0 : ((List SNode) × Int × Int × Yt10 × Int × Int) → Option (Ex Yt14 Yt14)) (v53 : List SNode) (v54 : Int) (v55 : List Int) (v56 : Int) (v57 : Int) : Option (Ex Yt14 Yt14) :=
 f0 (v53, v54, (IntKind.i64.wrap (v7 - 1)), v55, v56, v57)
noncomputable def L_28 (f0 : ((List SNode) × Int × Int × Yt10 × Int × Int) → Option (Ex Yt14 Yt14)) (v5 : List SNode) (v6 : Int) (v7 : Int) (v8 : List Int) (v9 : Int) (v10 : Int) : Option (Ex Yt14 Yt14) :=
 (bif (decide (v7 > 0)) then
 joinK ((F_d v8 v9 v10 ([1, 1, 1, 2, 5, 6, 7])).bind (fun y11 => joinK ((bif (y11.1 == 1) then
 (F_0 y11.2.1 y11.2.2.1 y11.2.2.2 v6).bind (fun y12 => (F_0 y12.2.1 y12.2.2.1 y12.2.2.2 4).bind (fun y13 => (bif (y13.1 != 3) then
 (F_0 y13.2.1 y13.2.2.1 y13.2.2.2 6).bind (fun y14 => some (.go (v6, y11.1, ByteArray.empty, y12.1, y13.1, y14.1, false, [], y14.2.1, y14.2.2.1, y14.2.2.2)))
 else some (.go (v6, y11.1, ByteArray.empty, y12.1, y13.1, 0, false, [], y13.2.1, y13.2.2.1, y13.2.2.2)))))
 else (bif (y11.1 == 2) then
 joinK ((F_0 y11.2.1 y11.2.2.1 y11.2.2.2 3).bind (fun y15 => loopF (fun f s => L_29 v6 f s.1 s.2.1 s.2.2.1 s.2.2.2.1 s.2.2.2.2.1 s.2.2.2.2.2.1 s.2.2.2.2.2.2.1 s.2.2.2.2.2.2.2.1 s.2.2.2.2.2.2.2.2.1 s.2.2.2.2.2.2.2.2.2.1 s.2.2.2.2.2.2.2.2.2.2) (y11.1, ByteArray.empty, 0, 0, 0, false, [], (IntKind.i64.wrap (1 + y15.1)), y15.2.1, y15.2.2.1, y15.2.2.2)))
 (fun s => J_56 s.1 s.2.1 s.2.2.1 s.2.2.2.1 s.2.2.2.2.1 s.2.2.2.2.2.1 s.2.2.2.2.2.2.1 s.2.2.2.2.2.2.2.1 s.2.2.2.2.2.2.2.2.1 s.2.2.2.2.2.2.2.2.2)
 else (bif (y11.1 == 5) then
 (F_0 y11.2.1 y11.2.2.1 y11.2.2.2 v6).bind (fun y39 => some (.go (v6, y11.1, ByteArray.empty, y39.1, 0, 0, false, [], y39.2.1, y39.2.2.1, y39.2.2.2)))
 else (bif (y11.1 == 6) then
 (F_0 y11.2.1 y11.2.2.1 y11.2.2.2 5).bind (fun y40 => some (.go (v6, y11.1, ByteArray.empty, 0, 0, y40.1, false, [], y40.2.1, y40.2.2.1, y40.2.2.2)))
 else some (.go (v6, y11.1, ByteArray.empty, 0, 0, 0, false, [], y11.2.1, y11.2.2.1, y11.2.2.2)))))))
 (fun s => J_33 v5 s.1 s.2.1 s.2.2.1 s.2.2.2.1 s.2.2.2.2.1 s.2.2.2.2.2.1 s.2.2.2.2.2.2.1 s.2.2.2.2.2.2.2.1 s.2.2.2.2.2.2.2.2.1 s.2.2.2.2.2.2.2.2.2.1 s.2.2.2.2.2.2.2.2.2.2)))
 (fun s => J_32 v7 f0 s.1 s.2.1 s.2.2.1 s.2.2.2.1 s.2.2.2.2)
 else some (.go (v5, v8, v9, v10)))
@[simp] noncomputable def J_55 (v58 : List SNode) (v59 : List Int) (v60 : Int) (v61 : Int) : Option Yt14 :=
 some (v58, v59, v60, v61)
theorem U_3j (a0x0 : List Int) (a0x1 : Int) (a0x2 : Int) (a1 : List Int) : Le ((F_3d a1 5).bind (fun y1 => (F_0 a0x0 a0x1 a0x2 y1).bind (fun y2 => (F_5 y2.2.1 y2.2.2.1 y2.2.2.2 (IntKind.i64.wrap (1 + y2.1))).bind (fun y3 => joinK ((F_0 y3.2.2.1 y3.2.2.2.1 y3.2.2.2.2 4).bind (fun y4 => loopF (fun f s => L_28 f s.1 s.2.1 s.2.2.1 s.2.2.2.1 s.2.2.2.2.1 s.2.2.2.2.2) (y3.1, y3.2.1, (IntKind.i64.wrap (1 + y4.1)), y4.2.1, y4.2.2.1, y4.2.2.2)))
 (fun s => J_55 s.1 s.2.1 s.2.2.1 s.2.2.2))))) (F_3k a0x0 a0x1 a0x2 a1) := callL_le (tt := tt) (FT := FT) (SP := SP) (j := 13) rfl (by kernel_rfl)
theorem U_35 (a0 : List Int) (a1 : Int) : Le ((quox (a0.length : Int) 16).bind (fun z1 => (bif (decide ((IntKind.i64.wrap (2 + z1)) > a1)) then
 some a1
 else some (IntKind.i64.wrap (2 + z1))))) (F_3d a0 a1) := callL_le (tt := tt) (FT := FT) (SP := SP) (j := 14) rfl (by kernel_rfl)
@[simp] noncomputable def J_2x (y12 : Yt16) (v15 : List SNode) (v16 : Int) (v17 : List SNode) : Option Yt16 :=
 (F_1 ([[(4, (ByteArray.empty, (0, (0, (0, (false, ([], ())))))))], v15, v17])).bind (fun y18 => some (y18, v16, y12.2.2.1, y12.2.2.2.1, y12.2.2.2.2))
noncomputable def L_26 (y19 : Yt16) (f0 : (Int × ByteArray × Int × Int × Int × Bool × Yt10 × Int × Yt10 × Int × Int) → Option (Ex (Ex Yt16 Yt19) Yt28)) (v24 : Int) (v25 : ByteArray) (v26 : Int) (v27 : Int) (v28 : Int) (v29 : Bool) (v30 : List Int) (v31 : Int) (v32 : List Int) (v33 : Int) (v34 : Int) : Option (Ex (Ex Yt16 Yt19) Yt28) :=
 (bif (decide (v31 > 0)) then
 (F_0 v32 v33 v34 y19.2.1).bind (fun y35 => (apx v30 ([y35.1])).bind (fun z36 => f0 (v24, v25, v26, v27, v28, v29, z36, (IntKind.i64.wrap (v31 - 1)), y35.2.1, y35.2.2.1, y35.2.2.2)))
 else some (.go (v24, v25, v26, v27, v28, v29, v30, v32, v33, v34)))
@[simp] noncomputable def J_4v (v37 : Int) (v38 : ByteArray) (v39 : Int) (v40 : Int) (v41 : Int) (v42 : Bool) (v43 : List Int) (v44 : List Int) (v45 : Int) (v46 : Int) : Option (Ex Yt16 Yt19) :=
 some (.go ((v43.length : Int), v37, v38, v39, v40, v41, v42, v43, v44, v45, v46))
@[simp] noncomputable def J_2y (y19 : Yt16) (v49 : Int) (v50 : Int) (v51 : ByteArray) (v52 : Int) (v53 : Int) (v54 : Int) (v55 : Bool) (v56 : List Int) (v57 : List Int) (v58 : Int) (v59 : Int) : Option Yt16 :=
 (F_1 ([[(v50, (v51, (v52, (v53, (v54, (v55, (v56, ())))))))], y19.1])).bind (fun y60 => some (y60, v49, v57, v58, v59))
@[simp] noncomputable def J_2w (a1 : Int) (y1 : Yt47) (v2 : Int) : Option Yt16 :=
 (bif (v2 == 0) then
 (F_0 y1.2.1 y1.2.2.1 y1.2.2.2 3).bind (fun y3 => (ix ([(⟨#[116, 49]⟩ : ByteArray), (⟨#[116, 50]⟩ : ByteArray), (⟨#[116, 51]⟩ : ByteArray)]) y3.1).bind (fun z4 => (ix ([2, 3, 1]) y3.1).bind (fun z5 => some ([(0, (z4, (0, (0, (0, (false, ([], ())))))))], z5, y3.2.1, y3.2.2.1, y3.2.2.2))))
 else (bif (v2 == 3) then
 (F_5 y1.2.1 y1.2.2.1 y1.2.2.2 (IntKind.i64.wrap (a1 - 1))).bind (fun y6 => (F_5 y6.2.2.1 y6.2.2.2.1 y6.2.2.2.2 (IntKind.i64.wrap (a1 - 2))).bind (fun y7 => (F_0 y7.2.2.1 y7.2.2.2.1 y7.2.2.2.2 y6.2.1).bind (fun y8 => (F_0 y8.2.1 y8.2.2.1 y8.2.2.2 y7.2.1).bind (fun y9 => (F_1 ([[(3, (ByteArray.empty, (y8.1, (0, (y9.1, (false, ([], ())))))))], y6.1, y7.1])).bind (fun y10 => some (y10, (IntKind.i64.wrap (y6.2.1 + y7.2.1)), y9.2.1, y9.2.2.1, y9.2.2.2))))))
 else (bif (v2 == 4) then
 (F_5 y1.2.1 y1.2.2.1 y1.2.2.2 (IntKind.i64.wrap (a1 - 1))).bind (fun y11 => (F_5 y11.2.2.1 y11.2.2.2.1 y11.2.2.2.2 (IntKind.i64.wrap (a1 - 2))).bind (fun y12 => joinK ((bif (y12.2.1 != y11.2.1) then
 (F_1 ([[(2, (ByteArray.empty, (0, (0, (0, (false, ([0], ())))))))], y11.1])).bind (fun y13 => (F_1 ([[(2, (ByteArray.empty, (0, (0, (0, (false, ([0], ())))))))], y12.1])).bind (fun y14 => some (.go (y13, 1, y14))))
 else some (.go (y11.1, y11.2.1, y12.1))))
 (fun s => J_2x y12 s.1 s.2.1 s.2.2)))
 else (F_5 y1.2.1 y1.2.2.1 y1.2.2.2 (IntKind.i64.wrap (a1 - 1))).bind (fun y19 => joinK ((bif (v2 == 1) then
 (F_0 y19.2.2.1 y19.2.2.2.1 y19.2.2.2.2 y19.2.1).bind (fun y20 => (F_0 y20.2.1 y20.2.2.1 y20.2.2.2 4).bind (fun y21 => (bif (y21.1 != 3) then
 (F_0 y21.2.1 y21.2.2.1 y21.2.2.2 6).bind (fun y22 => some (.go (y19.2.1, v2, ByteArray.empty, y20.1, y21.1, (IntKind.i64.wrap (y22.1 - 1)), false, [], y22.2.1, y22.2.2.1, y22.2.2.2)))
 else some (.go (y19.2.1, v2, ByteArray.empty, y20.1, y21.1, 0, false, [], y21.2.1, y21.2.2.1, y21.2.2.2)))))
 else (bif (v2 == 2) then
 joinK ((F_0 y19.2.2.1 y19.2.2.2.1 y19.2.2.2.2 3).bind (fun y23 => loopF (fun f s => L_26 y19 f s.1 s.2.1 s.2.2.1 s.2.2.2.1 s.2.2.2.2.1 s.2.2.2.2.2.1 s.2.2.2.2.2.2.1 s.2.2.2.2.2.2.2.1 s.2.2.2.2.2.2.2.2.1 s.2.2.2.2.2.2.2.2.2.1 s.2.2.2.2.2.2.2.2.2.2) (v2, ByteArray.empty, 0, 0, 0, false, [], (IntKind.i64.wrap (1 + y23.1)), y23.2.1, y23.2.2.1, y23.2.2.2)))
 (fun s => J_4v s.1 s.2.1 s.2.2.1 s.2.2.2.1 s.2.2.2.2.1 s.2.2.2.2.2.1 s.2.2.2.2.2.2.1 s.2.2.2.2.2.2.2.1 s.2.2.2.2.2.2.2.2.1 s.2.2.2.2.2.2.2.2.2)
 else (bif (v2 == 5) then
 (F_0 y19.2.2.1 y19.2.2.2.1 y19.2.2.2.2 y19.2.1).bind (fun y47 => some (.go (y19.2.1, v2, ByteArray.empty, y47.1, 0, 0, false, [], y47.2.1, y47.2.2.1, y47.2.2.2)))
 else (bif (v2 == 6) then
 (F_0 y19.2.2.1 y19.2.2.2.1 y19.2.2.2.2 6).bind (fun y48 => some (.go (y19.2.1, v2, ByteArray.empty, 0, 0, y48.1, false, [], y48.2.1, y48.2.2.1, y48.2.2.2)))
 else some (.go (y19.2.1, v2, ByteArray.empty, 0, 0, 0, false, [], y19.2.2.1, y19.2.2.2.1, y19.2.2.2.2)))))))
 (fun s => J_2y y19 s.1 s.2.1 s.2.2.1 s.2.2.2.1 s.2.2.2.2.1 s.2.2.2.2.2.1 s.2.2.2.2.2.2.1 s.2.2.2.2.2.2.2.1 s.2.2.2.2.2.2.2.2.1 s.2.2.2.2.2.2.2.2.2.1 s.2.2.2.2.2.2.2.2.2.2)))))
theorem U_39 (a0x0 : List Int) (a0x1 : Int) (a0x2 : Int) (a1 : Int) : Le ((F_d a0x0 a0x1 a0x2 ([0, 1, 1, 1, 2, 3, 4, 5, 6, 7])).bind (fun y1 => joinK ((bif (decide (a1 ≤ 1)) then
 some (.go 0)
 else some (.go y1.1)))
 (fun s => J_2w a1 y1 s))) (F_5 a0x0 a0x1 a0x2 a1) := callL_le (tt := tt) (FT := FT) (SP := SP) (j := 15) rfl (by kernel_rfl)
noncomputable def L_1m (a0 : List (List SNode)) (f0 : Yt29 → Option Yt27) (v1 : List SNode) (v2 : Int) : Option Yt27 :=
 (bif (decide (v2 < (a0.length : Int))) then
 (ix a0 v2).bind (fun z3 => (F_f z3).bind (fun y4 => (apx v1 y4).bind (fun z5 => f0 (z5, (IntKind.i64.wrap (v2 + 1))))))
 else some (.go v1))
@[simp] noncomputable def J_4w (v6 : List SNode) : Option (List SNode) :=
 some v6
theorem U_3a (a0 : List (List SNode)) : Le (joinK (loopF (fun f s => L_1m a0 f s.1 s.2) ([], 0))
 (fun s => J_4w s)) (F_1 a0) := callL_le (tt := tt) (FT := FT) (SP := SP) (j := 16) rfl (by kernel_rfl)
@[simp] noncomputable def J_2v (v1 : List SNode) (v2 : Int) (f0 : Yt29 → Option Yt27) (v7 : Int) (v8 : ByteArray) (v9 : Int) (v10 : Int) (v11 : Int) (v12 : Bool) (v13 : List Int) : Option Yt27 :=
 (apx v1 ([(v7, (v8, (v9, (v10, (v11, (v12, (v13, ())))))))])).bind (fun z14 => f0 (z14, (IntKind.i64.wrap (v2 + 1))))
noncomputable def L_1l (a0 : List SNode) (f0 : Yt29 → Option Yt27) (v1 : List SNode) (v2 : Int) : Option Yt27 :=
 (bif (decide (v2 < (a0.length : Int))) then
 (ix a0 v2).bind (fun z3 => joinK ((ix a0 v2).bind (fun z4 => (bif (decide ((z4.2.2.2.2.2.2.1.length : Int) > 0)) then
 (ix a0 v2).bind (fun z5 => (F_36 z5.2.2.2.2.2.2.1).bind (fun y6 => some (.go (z3.1, z3.2.1, z3.2.2.1, z3.2.2.2.1, z3.2.2.2.2.1, z3.2.2.2.2.2.1, y6))))
 else some (.go (z3.1, z3.2.1, z3.2.2.1, z3.2.2.2.1, z3.2.2.2.2.1, z3.2.2.2.2.2.1, [])))))
 (fun s => J_2v v1 v2 f0 s.1 s.2.1 s.2.2.1 s.2.2.2.1 s.2.2.2.2.1 s.2.2.2.2.2.1 s.2.2.2.2.2.2))
 else some (.go v1))
@[simp] noncomputable def J_4u (v15 : List SNode) : Option (List SNode) :=
 some v15
theorem U_38 (a0 : List SNode) : Le (joinK (loopF (fun f s => L_1l a0 f s.1 s.2) ([], 0))
 (fun s => J_4u s)) (F_f a0) := callL_le (tt := tt) (FT := FT) (SP := SP) (j := 17) rfl (by kernel_rfl)
noncomputable def L_1i (a0 : List Int) (f0 : Yt42 → Option Yt34) (v1 : List Int) (v2 : Int) : Option Yt34 :=
 (bif (decide (v2 < (a0.length : Int))) then
 (ix a0 v2).bind (fun z3 => (apx v1 ([z3])).bind (fun z4 => f0 (z4, (IntKind.i64.wrap (v2 + 1)))))
 else some (.go v1))
@[simp] noncomputable def J_4o (v5 : List Int) : Option Yt10 :=
 some v5
theorem U_2v (a0 : List Int) : Le (joinK (loopF (fun f s => L_1i a0 f s.1 s.2) ([], 0))
 (fun s => J_4o s)) (F_36 a0) := callL_le (tt := tt) (FT := FT) (SP := SP) (j := 18) rfl (by kernel_rfl)
@[simp] noncomputable def J_57 (a1 : List SNode) (v3 : List SNode) (v4 : List Int) (v5 : Int) (v6 : Int) : Option Yt14 :=
 some (a1, v4, v5, v6)
theorem U_3k (a0x0 : List Int) (a0x1 : Int) (a0x2 : Int) (a1 : List SNode) : Le (joinK ((F_a a0x0 a0x1 a0x2 3).bind (fun y1 => (bif y1.1 then
 (F_2z a1).bind (fun y2 => (bif y2.2.2 then
 some (.ret (y2.1, y1.2.1, y1.2.2.1, y1.2.2.2))
 else some (.go ([], y1.2.1, y1.2.2.1, y1.2.2.2))))
 else some (.go ([], y1.2.1, y1.2.2.1, y1.2.2.2)))))
 (fun s => J_57 a1 s.1 s.2.1 s.2.2.1 s.2.2.2)) (F_3l a0x0 a0x1 a0x2 a1) := callL_le (tt := tt) (FT := FT) (SP := SP) (j := 19) rfl (by kernel_rfl)
@[simp] noncomputable def J_e (v5 : Int) (f0 : ((List SNode) × Yt10 × Int) → Option Yt32) (v14 : List SNode) (v15 : List Int) : Option Yt32 :=
 f0 (v14, v15, (IntKind.i64.wrap (v5 + 1)))
noncomputable def L_19 (f0 : ((List SNode) × Yt10 × Int) → Option Yt32) (v3 : List SNode) (v4 : List Int) (v5 : Int) : Option Yt32 :=
 (bif (decide (v5 < (v3.length : Int))) then
 joinK ((ix v3 v5).bind (fun z6 => (F_3i z6).bind (fun y7 => (bif (!y7) then
 some (.go (v3, v4))
 else (ix v3 v5).bind (fun z8 => (apx v4 ([z8.2.2.2.2.1])).bind (fun z9 => (ix v3 v5).bind (fun z10 => (ix v3 v5).bind (fun z11 => (ix (v3.set (v5).toNat (z11.1, (z11.2.1, (z11.2.2.1, (z11.2.2.2.1, (z11.2.2.2.2.1, (true, z11.2.2.2.2.2.2))))))) v5).bind (fun z12 => (ix (v3.set (v5).toNat (z11.1, (z11.2.1, (z11.2.2.1, (z11.2.2.2.1, (z11.2.2.2.2.1, (true, z11.2.2.2.2.2.2))))))) v5).bind (fun z13 => some (.go (((v3.set (v5).toNat (z11.1, (z11.2.1, (z11.2.2.1, (z11.2.2.2.1, (z11.2.2.2.2.1, (true, z11.2.2.2.2.2.2))))))).set (v5).toNat (z13.1, (z13.2.1, (z13.2.2.1, (z13.2.2.2.1, ((IntKind.i64.wrap ((z9.length : Int) - 1)), z13.2.2.2.2.2)))))), z9))))))))))))
 (fun s => J_e v5 f0 s.1 s.2)
 else some (.go (v3, v4)))
@[simp] noncomputable def J_2i (v16 : List SNode) (v17 : List Int) : Option ((List SNode) × Yt10 × Bool) :=
 some (v16, v17, true)
theorem U_2i (a0 : List SNode) : Le ((F_2x a0).bind (fun y1 => (bif (!y1) then
 some ([], [], false)
 else (F_f a0).bind (fun y2 => joinK (loopF (fun f s => L_19 f s.1 s.2.1 s.2.2) (y2, [], 0))
 (fun s => J_2i s.1 s.2))))) (F_2z a0) := callL_le (tt := tt) (FT := FT) (SP := SP) (j := 20) rfl (by kernel_rfl)
@[simp] noncomputable def J_44 (v3 : Bool) : Option Bool :=
 some v3
theorem U_2g (a0 : List SNode) : Le (joinK ((F_c a0).bind (fun y1 => (bif y1 then
 (F_33 a0).bind (fun y2 => some (.go ((y2.length : Int) == 0)))
 else some (.go false))))
 (fun s => J_44 s)) (F_2x a0) := callL_le (tt := tt) (FT := FT) (SP := SP) (j := 21) rfl (by kernel_rfl)
noncomputable def L_1b (a0 : List SNode) (f0 : Yt31 → Option Yt18) (v2 : Bool) (v3 : Int) : Option Yt18 :=
 (bif (decide (v3 < (a0.length : Int))) then
 (ix a0 v3).bind (fun z4 => (F_30 z4).bind (fun y5 => (bif (!y5) then
 some (.ret false)
 else f0 (v2, (IntKind.i64.wrap (v3 + 1))))))
 else some (.go v2))
@[simp] noncomputable def J_2l (a0 : List SNode) (v6 : Bool) : Option Bool :=
 (F_7 a0 0 10).bind (fun y7 => some (y7.1 == (a0.length : Int)))
theorem U_2k (a0 : List SNode) : Le ((F_2 (a0.length : Int) 1 40).bind (fun y1 => (bif (!y1) then
 some false
 else joinK (loopF (fun f s => L_1b a0 f s.1 s.2) (false, 0))
 (fun s => J_2l a0 s)))) (F_c a0) := callL_le (tt := tt) (FT := FT) (SP := SP) (j := 22) rfl (by kernel_rfl)
@[simp] noncomputable def J_4q (v1 : Bool) : Option Bool :=
 some v1
theorem U_2x (a0 : Int) (a1 : Int) (a2 : Int) : Le (joinK ((bif (decide (a1 ≤ a0)) then
 some (.go (decide (a0 ≤ a2)))
 else some (.go false)))
 (fun s => J_4q s)) (F_2 a0 a1 a2) := callL_le (tt := tt) (FT := FT) (SP := SP) (j := 23) rfl (by kernel_rfl)
@[simp] noncomputable def J_47 (v11 : Bool) : Option Yt18 :=
 some (.ret v11)
@[simp] noncomputable def J_48 (v15 : Bool) : Option Yt18 :=
 some (.ret v15)
noncomputable def L_1a (a0 : SNode) (f0 : Yt31 → Option (Ex Yt18 Bool)) (v16 : Bool) (v17 : Int) : Option (Ex Yt18 Bool) :=
 (bif (decide (v17 < (a0.2.2.2.2.2.2.1.length : Int))) then
 (ix a0.2.2.2.2.2.2.1 v17).bind (fun z18 => (F_e z18).bind (fun y19 => (bif (!y19) then
 some (.ret (.ret false))
 else f0 (v16, (IntKind.i64.wrap (v17 + 1))))))
 else some (.go v16))
@[simp] noncomputable def J_49 (v22 : Bool) : Option Yt18 :=
 some (.ret v22)
@[simp] noncomputable def J_2k (a0 : SNode) (v20 : Bool) : Option Yt18 :=
 joinK ((F_2 (a0.2.2.2.2.2.2.1.length : Int) 1 6).bind (fun y21 => (bif y21 then
 (bif (a0.2.2.1 == 0) then
 (bif (a0.2.2.2.2.1 == 0) then
 some (.go (!a0.2.2.2.2.2.1))
 else some (.go false))
 else some (.go false))
 else some (.go false))))
 (fun s => J_49 s)
@[simp] noncomputable def J_4a (v25 : Bool) : Option Yt18 :=
 some (.ret v25)
@[simp] noncomputable def J_4b (v27 : Bool) : Option Yt18 :=
 some (.ret v27)
@[simp] noncomputable def J_4c (v29 : Bool) : Option Yt18 :=
 some (.ret v29)
@[simp] noncomputable def J_46 (v31 : Bool) : Option Yt18 :=
 some (.ret v31)
@[simp] noncomputable def J_4d (a0 : SNode) (v30 : Bool) : Option Yt18 :=
 (bif v30 then
 joinK ((bif (a0.2.2.1 == 0) then
 (bif (a0.2.2.2.2.1 == 0) then
 some (.go (!a0.2.2.2.2.2.1))
 else some (.go false))
 else some (.go false)))
 (fun s => J_46 s)
 else some (.go false))
@[simp] noncomputable def J_45 (v32 : Bool) : Option Bool :=
 some false
@[simp] noncomputable def J_2j (a0 : SNode) (v9 : Bool) : Option Bool :=
 (bif v9 then
 some false
 else joinK ((bif (a0.1 == 0) then
 joinK ((F_1f a0.2.1).bind (fun y10 => (bif y10 then
 (bif (a0.2.2.1 == 0) then
 (bif (a0.2.2.2.2.1 == 0) then
 some (.go (!a0.2.2.2.2.2.1))
 else some (.go false))
 else some (.go false))
 else some (.go false))))
 (fun s => J_47 s)
 else (bif (a0.1 == 1) then
 joinK ((F_e a0.2.2.1).bind (fun y12 => (bif y12 then
 (F_2 a0.2.2.2.1 0 3).bind (fun y13 => (bif y13 then
 (F_3b a0.2.2.2.2.1).bind (fun y14 => (bif y14 then
 (bif (a0.2.2.2.1 != 3) then
 some (.go true)
 else (bif (a0.2.2.2.2.1 == 0) then
 some (.go (!a0.2.2.2.2.2.1))
 else some (.go false)))
 else some (.go false)))
 else some (.go false)))
 else some (.go false))))
 (fun s => J_48 s)
 else (bif (a0.1 == 2) then
 joinK (loopF (fun f s => L_1a a0 f s.1 s.2) (false, 0))
 (fun s => J_2k a0 s)
 else (bif (a0.1 == 3) then
 joinK ((F_e a0.2.2.1).bind (fun y23 => (bif y23 then
 (F_e a0.2.2.2.2.1).bind (fun y24 => (bif y24 then
 some (.go (!a0.2.2.2.2.2.1))
 else some (.go false)))
 else some (.go false))))
 (fun s => J_4a s)
 else (bif (a0.1 == 5) then
 joinK ((F_e a0.2.2.1).bind (fun y26 => (bif y26 then
 (bif (a0.2.2.2.2.1 == 0) then
 some (.go (!a0.2.2.2.2.2.1))
 else some (.go false))
 else some (.go false))))
 (fun s => J_4b s)
 else (bif (a0.1 == 6) then
 joinK ((bif (a0.2.2.1 == 0) then
 (F_2 a0.2.2.2.2.1 0 1000000).bind (fun y28 => some (.go y28))
 else some (.go false)))
 (fun s => J_4c s)
 else joinK ((bif (a0.1 == 4) then
 some (.go true)
 else some (.go (a0.1 == 7))))
 (fun s => J_4d a0 s))))))))
 (fun s => J_45 s))
theorem U_2j (a0 : SNode) : Le (joinK ((bif (a0.1 != 0) then
 (bif (!(a0.2.1.toList == ByteArray.empty.toList)) then
 some (.go true)
 else (bif (a0.1 != 2) then
 (bif (decide ((a0.2.2.2.2.2.2.1.length : Int) > 0)) then
 some (.go true)
 else (bif (a0.1 != 1) then
 (bif (a0.2.2.2.1 != 0) then
 some (.go true)
 else (bif a0.2.2.2.2.2.1 then
 (F_2 a0.2.2.2.2.1 0 39).bind (fun y1 => some (.go (!y1)))
 else some (.go false)))
 else (bif a0.2.2.2.2.2.1 then
 (F_2 a0.2.2.2.2.1 0 39).bind (fun y2 => some (.go (!y2)))
 else some (.go false))))
 else (bif (a0.1 != 1) then
 (bif (a0.2.2.2.1 != 0) then
 some (.go true)
 else (bif a0.2.2.2.2.2.1 then
 (F_2 a0.2.2.2.2.1 0 39).bind (fun y3 => some (.go (!y3)))
 else some (.go false)))
 else (bif a0.2.2.2.2.2.1 then
 (F_2 a0.2.2.2.2.1 0 39).bind (fun y4 => some (.go (!y4)))
 else some (.go false)))))
 else (bif (a0.1 != 2) then
 (bif (decide ((a0.2.2.2.2.2.2.1.length : Int) > 0)) then
 some (.go true)
 else (bif (a0.1 != 1) then
 (bif (a0.2.2.2.1 != 0) then
 some (.go true)
 else (bif a0.2.2.2.2.2.1 then
 (F_2 a0.2.2.2.2.1 0 39).bind (fun y5 => some (.go (!y5)))
 else some (.go false)))
 else (bif a0.2.2.2.2.2.1 then
 (F_2 a0.2.2.2.2.1 0 39).bind (fun y6 => some (.go (!y6)))
 else some (.go false))))
 else (bif (a0.1 != 1) then
 (bif (a0.2.2.2.1 != 0) then
 some (.go true)
 else (bif a0.2.2.2.2.2.1 then
 (F_2 a0.2.2.2.2.1 0 39).bind (fun y7 => some (.go (!y7)))
 else some (.go false)))
 else (bif a0.2.2.2.2.2.1 then
 (F_2 a0.2.2.2.2.1 0 39).bind (fun y8 => some (.go (!y8)))
 else some (.go false))))))
 (fun s => J_2j a0 s)) (F_30 a0) := callL_le (tt := tt) (FT := FT) (SP := SP) (j := 24) rfl (by kernel_rfl)
@[simp] noncomputable def J_2q (v4 : Bool) (v5 : Int) (f0 : Yt31 → Option Yt18) (v12 : Bool) : Option Yt18 :=
 (bif v12 then
 some (.ret false)
 else f0 (v4, (IntKind.i64.wrap (v5 + 1))))
noncomputable def L_1h (a0 : ByteArray) (f0 : Yt31 → Option Yt18) (v4 : Bool) (v5 : Int) : Option Yt18 :=
 (bif (decide (v5 < (a0.size : Int))) then
 joinK ((bix a0 v5).bind (fun z6 => (bif (decide (z6 < 97)) then
 (bix a0 v5).bind (fun z7 => (bif (decide (z7 < 48)) then
 some (.go true)
 else (bix a0 v5).bind (fun z8 => some (.go (decide (z8 > 57))))))
 else (bix a0 v5).bind (fun z9 => (bif (decide (z9 > 122)) then
 (bix a0 v5).bind (fun z10 => (bif (decide (z10 < 48)) then
 some (.go true)
 else (bix a0 v5).bind (fun z11 => some (.go (decide (z11 > 57))))))
 else some (.go false))))))
 (fun s => J_2q v4 v5 f0 s)
 else some (.go v4))
@[simp] noncomputable def J_4n (v13 : Bool) : Option Bool :=
 some true
@[simp] noncomputable def J_2p (a0 : ByteArray) (v3 : Bool) : Option Bool :=
 (bif v3 then
 some false
 else joinK (loopF (fun f s => L_1h a0 f s.1 s.2) (false, 0))
 (fun s => J_4n s))
theorem U_2s (a0 : ByteArray) : Le (joinK ((F_2 (a0.size : Int) 1 12).bind (fun y1 => (bif (!y1) then
 some (.go true)
 else (bix a0 0).bind (fun z2 => some (.go (decide (z2 < 97)))))))
 (fun s => J_2p a0 s)) (F_1f a0) := callL_le (tt := tt) (FT := FT) (SP := SP) (j := 25) rfl (by kernel_rfl)
theorem U_37 (a0 : Int) : Le ((F_2 a0 0 63).bind (fun y1 => some y1)) (F_e a0) := callL_le (tt := tt) (FT := FT) (SP := SP) (j := 26) rfl (by kernel_rfl)
theorem U_31 (a0 : Int) : Le ((F_2 a0 (-1000000) 1000000).bind (fun y1 => some y1)) (F_3b a0) := callL_le (tt := tt) (FT := FT) (SP := SP) (j := 27) rfl (by kernel_rfl)
@[simp] noncomputable def J_2z (v6 : Int) (f0 : (Int × Int × Int × Int × Int) → Option Yt45) (v10 : Int) (v11 : Int) (v12 : Int) (v13 : Int) : Option Yt45 :=
 f0 (v10, v11, v12, v13, (IntKind.i64.wrap (v6 + 1)))
noncomputable def L_3 (a0 : List SNode) (a1 : Int) (a2 : Int) (f0 : (Int × Int × Int × Int × Int) → Option Yt45) (v2 : Int) (v3 : Int) (v4 : Int) (v5 : Int) (v6 : Int) : Option Yt45 :=
 (ix a0 a1).bind (fun z7 => (F_1d z7.1).bind (fun y8 => (bif (decide (v6 < y8)) then
 joinK ((F_7 a0 v4 (IntKind.i64.wrap (a2 - 1))).bind (fun y9 => (bif (decide (y9.1 < 0)) then
 some (.ret (.ret ((-1), 0)))
 else (bif (decide (y9.2 > v5)) then
 some (.go (v2, v3, y9.1, y9.2))
 else some (.go (v2, v3, y9.1, v5))))))
 (fun s => J_2z v6 f0 s.1 s.2.1 s.2.2.1 s.2.2.2)
 else some (.go (v2, v3, v4, v5)))))
@[simp] noncomputable def J_5 (v14 : Int) (v15 : Int) (v16 : Int) (v17 : Int) : Option Yt23 :=
 some (v16, (IntKind.i64.wrap (v17 + 1)))
@[simp] noncomputable def J_f (a0 : List SNode) (a1 : Int) (a2 : Int) (v1 : Bool) : Option Yt23 :=
 (bif v1 then
 some ((-1), 0)
 else joinK (loopF (fun f s => L_3 a0 a1 a2 f s.1 s.2.1 s.2.2.1 s.2.2.2.1 s.2.2.2.2) (0, 0, (IntKind.i64.wrap (a1 + 1)), 0, 0))
 (fun s => J_5 s.1 s.2.1 s.2.2.1 s.2.2.2))
theorem U_5 (a0 : List SNode) (a1 : Int) (a2 : Int) : Le (joinK ((bif (decide (a1 ≥ (a0.length : Int))) then
 some (.go true)
 else some (.go (a2 == 0))))
 (fun s => J_f a0 a1 a2 s)) (F_7 a0 a1 a2) := callL_le (tt := tt) (FT := FT) (SP := SP) (j := 28) rfl (by kernel_rfl)
@[simp] noncomputable def J_42 (v2 : Bool) : Option Int :=
 (bif v2 then
 some 1
 else some (-1))
@[simp] noncomputable def J_41 (a0 : Int) (v1 : Bool) : Option Int :=
 (bif v1 then
 some 2
 else joinK ((bif (a0 == 1) then
 some (.go true)
 else (bif (a0 == 2) then
 some (.go true)
 else (bif (a0 == 5) then
 some (.go true)
 else (bif (a0 == 6) then
 some (.go true)
 else some (.go (a0 == 7)))))))
 (fun s => J_42 s))
theorem U_2e (a0 : Int) : Le ((bif (a0 == 0) then
 some 0
 else joinK ((bif (a0 == 3) then
 some (.go true)
 else some (.go (a0 == 4))))
 (fun s => J_41 a0 s))) (F_1d a0) := callL_le (tt := tt) (FT := FT) (SP := SP) (j := 29) rfl (by kernel_rfl)
@[simp] noncomputable def J_4j (v3 : Int) (v4 : List Int) (v9 : Bool) : Option (Ex (Ex Yt34 Yt10) Yt10) :=
 (bif v9 then
 (apx v4 ([v3])).bind (fun z10 => some (.go z10))
 else some (.go v4))
@[simp] noncomputable def J_4i (v5 : Int) (f1 : Yt42 → Option (Ex Yt34 Yt10)) (v11 : List Int) : Option (Ex Yt34 Yt10) :=
 f1 (v11, (IntKind.i64.wrap (v5 + 1)))
noncomputable def L_c (a0 : List SNode) (v3 : Int) (f1 : Yt42 → Option (Ex Yt34 Yt10)) (v4 : List Int) (v5 : Int) : Option (Ex Yt34 Yt10) :=
 (bif (decide (v5 < (a0.length : Int))) then
 joinK (joinK ((ix a0 v5).bind (fun z6 => (bif z6.2.2.2.2.2.1 then
 (ix a0 v5).bind (fun z7 => (bif (z7.2.2.2.2.1 == v3) then
 (F_37 v4 v3).bind (fun y8 => some (.go (!y8)))
 else some (.go false)))
 else some (.go false))))
 (fun s => J_4j v3 v4 s))
 (fun s => J_4i v5 f1 s)
 else some (.go v4))
@[simp] noncomputable def J_2n (v3 : Int) (f0 : Yt42 → Option Yt34) (v12 : List Int) : Option Yt34 :=
 f0 (v12, (IntKind.i64.wrap (v3 + 1)))
noncomputable def L_1f (a0 : List SNode) (f0 : Yt42 → Option Yt34) (v2 : List Int) (v3 : Int) : Option Yt34 :=
 (bif (decide (v3 < 40)) then
 joinK (loopF (fun f s => L_c a0 v3 f s.1 s.2) (v2, 0))
 (fun s => J_2n v3 f0 s)
 else some (.go v2))
@[simp] noncomputable def J_4h (v13 : List Int) : Option Yt10 :=
 some v13
theorem U_2o (a0 : List SNode) : Le ((F_c a0).bind (fun y1 => (bif (!y1) then
 some ([])
 else joinK (loopF (fun f s => L_1f a0 f s.1 s.2) ([], 0))
 (fun s => J_4h s)))) (F_33 a0) := callL_le (tt := tt) (FT := FT) (SP := SP) (j := 30) rfl (by kernel_rfl)
noncomputable def L_1j (a0 : List Int) (a1 : Int) (f0 : Yt31 → Option Yt18) (v1 : Bool) (v2 : Int) : Option Yt18 :=
 (bif (decide (v2 < (a0.length : Int))) then
 (ix a0 v2).bind (fun z3 => (bif (z3 == a1) then
 some (.ret true)
 else f0 (v1, (IntKind.i64.wrap (v2 + 1)))))
 else some (.go v1))
@[simp] noncomputable def J_4p (v4 : Bool) : Option Bool :=
 some false
theorem U_2w (a0 : List Int) (a1 : Int) : Le (joinK (loopF (fun f s => L_1j a0 a1 f s.1 s.2) (false, 0))
 (fun s => J_4p s)) (F_37 a0 a1) := callL_le (tt := tt) (FT := FT) (SP := SP) (j := 31) rfl (by kernel_rfl)
@[simp] noncomputable def J_54 (v1 : Bool) : Option Bool :=
 some v1
theorem U_3h (a0 : SNode) : Le (joinK ((bif (a0.1 == 1) then
 (bif (a0.2.2.2.1 != 3) then
 some (.go true)
 else some (.go (a0.1 == 6)))
 else some (.go (a0.1 == 6))))
 (fun s => J_54 s)) (F_3i a0) := callL_le (tt := tt) (FT := FT) (SP := SP) (j := 32) rfl (by kernel_rfl)
@[simp] noncomputable def J_2u (a1 : List SNode) (v2 : Bool) (v3 : List Int) (v4 : Int) (v5 : Int) : Option Yt14 :=
 (bif v2 then
 some (a1, v3, v4, v5)
 else (F_0 v3 v4 v5 (a1.length : Int)).bind (fun y6 => (F_0 y6.2.1 y6.2.2.1 y6.2.2.2 7).bind (fun y7 => (bif (y7.1 == 0) then
 (F_0 y7.2.1 y7.2.2.1 y7.2.2.2 10).bind (fun y8 => (ix a1 y6.1).bind (fun z9 => (ix a1 y6.1).bind (fun z10 => some ((a1.set (y6.1).toNat ((IntKind.i64.wrap (y8.1 - 1)), z10.2)), y8.2.1, y8.2.2.1, y8.2.2.2))))
 else (bif (y7.1 == 1) then
 (F_d y7.2.1 y7.2.2.1 y7.2.2.2 ([(-1), 63, 64, 2])).bind (fun y11 => (ix a1 y6.1).bind (fun z12 => (ix a1 y6.1).bind (fun z13 => some ((a1.set (y6.1).toNat (z13.1, (z13.2.1, (y11.1, z13.2.2.2)))), y11.2.1, y11.2.2.1, y11.2.2.2))))
 else (bif (y7.1 == 2) then
 (F_d y7.2.1 y7.2.2.1 y7.2.2.2 ([(-1), 1000000, 1000001])).bind (fun y14 => (ix a1 y6.1).bind (fun z15 => (ix a1 y6.1).bind (fun z16 => some ((a1.set (y6.1).toNat (z16.1, (z16.2.1, (z16.2.2.1, (z16.2.2.2.1, (y14.1, z16.2.2.2.2.2)))))), y14.2.1, y14.2.2.1, y14.2.2.2))))
 else (bif (y7.1 == 3) then
 (ix a1 y6.1).bind (fun z17 => (ix a1 y6.1).bind (fun z18 => some ((a1.set (y6.1).toNat (z18.1, (z18.2.1, (z18.2.2.1, (z18.2.2.2.1, (z18.2.2.2.2.1, (true, z18.2.2.2.2.2.2))))))), y7.2.1, y7.2.2.1, y7.2.2.2)))
 else (bif (y7.1 == 4) then
 (ix a1 y6.1).bind (fun z19 => (ix a1 y6.1).bind (fun z20 => (apx a1 ([z20])).bind (fun z21 => some (z21, y7.2.1, y7.2.2.1, y7.2.2.2))))
 else (bif (y7.1 == 5) then
 (tkx a1 y6.1).bind (fun z22 => some (z22, y7.2.1, y7.2.2.1, y7.2.2.2))
 else (bif (y7.1 == 6) then
 (ix a1 y6.1).bind (fun z23 => (ix a1 y6.1).bind (fun z24 => (bind2 (ix a1 y6.1) (fun z25 => apx z25.2.2.2.2.2.2.1 ([0]))).bind (fun y26 => (inx a1.length y6.1).bind (fun z27 => (eqix y6.1 y6.1 a1).bind (fun z28 => some ((a1.set (y6.1).toNat (z28.1, (z28.2.1, (z28.2.2.1, (z28.2.2.2.1, (z28.2.2.2.2.1, (z28.2.2.2.2.2.1, (y26.2, z28.2.2.2.2.2.2.2)))))))), y7.2.1, y7.2.2.1, y7.2.2.2))))))
 else some (a1, y7.2.1, y7.2.2.1, y7.2.2.2)))))))))))
theorem U_36 (a0x0 : List Int) (a0x1 : Int) (a0x2 : Int) (a1 : List SNode) : Le (joinK ((F_a a0x0 a0x1 a0x2 8).bind (fun y1 => (bif (!y1.1) then
 some (.go (true, y1.2.1, y1.2.2.1, y1.2.2.2))
 else some (.go (((a1.length : Int) == 0), y1.2.1, y1.2.2.1, y1.2.2.2)))))
 (fun s => J_2u a1 s.1 s.2.1 s.2.2.1 s.2.2.2)) (F_1g a0x0 a0x1 a0x2 a1) := callL_le (tt := tt) (FT := FT) (SP := SP) (j := 33) rfl (by kernel_rfl)
noncomputable def L_2a (a1 : List STable) (a3 : Int) (f0 : ((List SNode) × Yt24 × Int × Yt10 × Int × Int) → Option (Ex Yt40 Yt40)) (v1 : List SNode) (v2 : List SStep) (v3 : Int) (v4 : List Int) (v5 : Int) (v6 : Int) : Option (Ex Yt40 Yt40) :=
 (bif (decide (v3 < a3)) then
 (F_3m v4 v5 v6 a1 v1).bind (fun y7 => (F_2v a1 v1 (y7.1.1, (y7.1.2.1, ()))).bind (fun y8 => (apx v2 ([(y7.1.1, (y7.1.2.1, ()))])).bind (fun z9 => f0 (y8.1, z9, (IntKind.i64.wrap (v3 + 1)), y7.2.1, y7.2.2.1, y7.2.2.2))))
 else some (.go (v2, v4, v5, v6)))
@[simp] noncomputable def J_58 (v10 : List SStep) (v11 : List Int) (v12 : Int) (v13 : Int) : Option Yt40 :=
 some (v10, v11, v12, v13)
theorem U_3m (a0x0 : List Int) (a0x1 : Int) (a0x2 : Int) (a1 : List STable) (a2 : List SNode) (a3 : Int) : Le (joinK (loopF (fun f s => L_2a a1 a3 f s.1 s.2.1 s.2.2.1 s.2.2.2.1 s.2.2.2.2.1 s.2.2.2.2.2) (a2, [], 0, a0x0, a0x1, a0x2))
 (fun s => J_58 s.1 s.2.1 s.2.2.1 s.2.2.2)) (F_3n a0x0 a0x1 a0x2 a1 a2 a3) := callL_le (tt := tt) (FT := FT) (SP := SP) (j := 34) rfl (by kernel_rfl)
@[simp] noncomputable def J_34 (a2 : List SNode) (y1 : List SStep) (v3 : Bool) (v4 : List Int) (v5 : Int) (v6 : Int) : Option (SStep × Yt10 × Int × Int) :=
 (bif v3 then
 (F_0 v4 v5 v6 (y1.length : Int)).bind (fun y7 => (ix y1 y7.1).bind (fun z8 => some ((z8.1, (z8.2.1, ())), y7.2.1, y7.2.2.1, y7.2.2.2)))
 else (F_0 v4 v5 v6 14).bind (fun y9 => (F_0 y9.2.1 y9.2.2.1 y9.2.2.2 (IntKind.i64.wrap ((a2.length : Int) + 2))).bind (fun y10 => some (((IntKind.i64.wrap (y9.1 - 1)), ((IntKind.i64.wrap (y10.1 - 1)), ())), y10.2.1, y10.2.2.1, y10.2.2.2))))
theorem U_3l (a0x0 : List Int) (a0x1 : Int) (a0x2 : Int) (a1 : List STable) (a2 : List SNode) : Le ((F_34 a1 a2).bind (fun y1 => joinK ((bif (decide ((y1.length : Int) > 0)) then
 (F_0 a0x0 a0x1 a0x2 4).bind (fun y2 => some (.go ((decide (y2.1 > 0)), y2.2.1, y2.2.2.1, y2.2.2.2)))
 else some (.go (false, a0x0, a0x1, a0x2))))
 (fun s => J_34 a2 y1 s.1 s.2.1 s.2.2.1 s.2.2.2))) (F_3m a0x0 a0x1 a0x2 a1 a2) := callL_le (tt := tt) (FT := FT) (SP := SP) (j := 35) rfl (by kernel_rfl)
@[simp] noncomputable def J_4l (v5 : Int) (f1 : (Yt24 × Int) → Option (Ex (Ex Yt24 Yt24) Yt24)) (v8 : List SStep) : Option (Ex (Ex Yt24 Yt24) Yt24) :=
 f1 (v8, (IntKind.i64.wrap (v5 + 1)))
noncomputable def L_2c (a0 : List STable) (a1 : List SNode) (v3 : Int) (f1 : (Yt24 × Int) → Option (Ex (Ex Yt24 Yt24) Yt24)) (v4 : List SStep) (v5 : Int) : Option (Ex (Ex Yt24 Yt24) Yt24) :=
 (bif (decide (v5 < 12)) then
 joinK ((F_k a0 a1 (v5, (v3, ()))).bind (fun y6 => (bif y6.2 then
 (apx v4 ([(v5, (v3, ()))])).bind (fun z7 => some (.go z7))
 else some (.go v4))))
 (fun s => J_4l v5 f1 s)
 else some (.go v4))
@[simp] noncomputable def J_2o (v3 : Int) (f0 : (Yt24 × Int) → Option (Ex Yt24 Yt24)) (v9 : List SStep) : Option (Ex Yt24 Yt24) :=
 f0 (v9, (IntKind.i64.wrap (v3 + 1)))
noncomputable def L_1g (a0 : List STable) (a1 : List SNode) (f0 : (Yt24 × Int) → Option (Ex Yt24 Yt24)) (v2 : List SStep) (v3 : Int) : Option (Ex Yt24 Yt24) :=
 (bif (decide (v3 < (a1.length : Int))) then
 joinK (loopF (fun f s => L_2c a0 a1 v3 f s.1 s.2) (v2, 0))
 (fun s => J_2o v3 f0 s)
 else some (.go v2))
@[simp] noncomputable def J_4k (v10 : List SStep) : Option Yt24 :=
 some v10
theorem U_2p (a0 : List STable) (a1 : List SNode) : Le ((F_l a0 a1).bind (fun y1 => (bif (!y1) then
 some ([])
 else joinK (loopF (fun f s => L_1g a0 a1 f s.1 s.2) ([], 0))
 (fun s => J_4k s)))) (F_34 a0 a1) := callL_le (tt := tt) (FT := FT) (SP := SP) (j := 36) rfl (by kernel_rfl)
theorem U_2q (a0 : List STable) (a1 : List SNode) : Le ((F_35 a0 a1).bind (fun y1 => some (y1 != (-1)))) (F_l a0 a1) := callL_le (tt := tt) (FT := FT) (SP := SP) (j := 37) rfl (by kernel_rfl)
@[simp] noncomputable def J_4m (a0 : List STable) (a1 : List SNode) (v3 : Bool) : Option Int :=
 (bif v3 then
 some (-1)
 else (F_u a0 a1 0).bind (fun y4 => some y4))
theorem U_2r (a0 : List STable) (a1 : List SNode) : Le (joinK ((F_32 a0).bind (fun y1 => (bif (!y1) then
 some (.go true)
 else (F_c a1).bind (fun y2 => some (.go (!y2))))))
 (fun s => J_4m a0 a1 s)) (F_35 a0 a1) := callL_le (tt := tt) (FT := FT) (SP := SP) (j := 38) rfl (by kernel_rfl)
@[simp] noncomputable def J_4g (v1 : Bool) (v2 : Int) (f0 : Yt31 → Option Yt18) (v10 : Bool) : Option Yt18 :=
 (bif v10 then
 some (.ret false)
 else f0 (v1, (IntKind.i64.wrap (v2 + 1))))
noncomputable def L_1e (a0 : List STable) (f0 : Yt31 → Option Yt18) (v1 : Bool) (v2 : Int) : Option Yt18 :=
 (bif (decide (v2 < (a0.length : Int))) then
 joinK ((ix a0 v2).bind (fun z3 => (F_1f z3.1).bind (fun y4 => (bif (!y4) then
 some (.go true)
 else (ix a0 v2).bind (fun z5 => (F_2 z5.2.1 1 6).bind (fun y6 => (bif (!y6) then
 some (.go true)
 else (bif (decide (v2 > 0)) then
 (ix a0 (IntKind.i64.wrap (v2 - 1))).bind (fun z7 => (ix a0 v2).bind (fun z8 => (F_38 z7.1 z8.1).bind (fun y9 => some (.go (!y9)))))
 else some (.go false)))))))))
 (fun s => J_4g v1 v2 f0 s)
 else some (.go v1))
@[simp] noncomputable def J_4f (v11 : Bool) : Option Bool :=
 some true
theorem U_2n (a0 : List STable) : Le ((bif (decide ((a0.length : Int) > 8)) then
 some false
 else joinK (loopF (fun f s => L_1e a0 f s.1 s.2) (false, 0))
 (fun s => J_4f s))) (F_32 a0) := callL_le (tt := tt) (FT := FT) (SP := SP) (j := 39) rfl (by kernel_rfl)
@[simp] noncomputable def J_4 (a0 : ByteArray) (a1 : ByteArray) (v1 : Bool) (v2 : Int) (f0 : Yt31 → Option Yt18) (v3 : Bool) : Option Yt18 :=
 (bif v3 then
 (bix a0 v2).bind (fun z4 => (bix a1 v2).bind (fun z5 => (bif (z4 != z5) then
 (bix a0 v2).bind (fun z6 => (bix a1 v2).bind (fun z7 => some (.ret (decide (z6 < z7)))))
 else f0 (v1, (IntKind.i64.wrap (v2 + 1))))))
 else some (.go v1))
noncomputable def L_1k (a0 : ByteArray) (a1 : ByteArray) (f0 : Yt31 → Option Yt18) (v1 : Bool) (v2 : Int) : Option Yt18 :=
 joinK ((bif (decide (v2 < (a0.size : Int))) then
 some (.go (decide (v2 < (a1.size : Int))))
 else some (.go false)))
 (fun s => J_4 a0 a1 v1 v2 f0 s)
@[simp] noncomputable def J_4r (a0 : ByteArray) (a1 : ByteArray) (v8 : Bool) : Option Bool :=
 some (decide ((a0.size : Int) < (a1.size : Int)))
theorem U_2y (a0 : ByteArray) (a1 : ByteArray) : Le (joinK (loopF (fun f s => L_1k a0 a1 f s.1 s.2) (false, 0))
 (fun s => J_4r a0 a1 s)) (F_38 a0 a1) := callL_le (tt := tt) (FT := FT) (SP := SP) (j := 40) rfl (by kernel_rfl)
noncomputable def L_4 (a0 : List STable) (a1 : List SNode) (y2 : List Int) (f0 : (Int × Yt10 × Int) → Option (Ex Int (Int × Yt10))) (v3 : Int) (v4 : List Int) (v5 : Int) : Option (Ex Int (Int × Yt10)) :=
 (bif (decide (v5 < (y2.length : Int))) then
 (ix y2 v5).bind (fun z6 => (F_u a0 a1 z6).bind (fun y7 => (bif (decide (y7 < 0)) then
 some (.ret (-1))
 else (apx v4 ([y7])).bind (fun z8 => f0 (v3, z8, (IntKind.i64.wrap (v5 + 1)))))))
 else some (.go (v3, v4)))
noncomputable def L_1q (z1 : SNode) (v10 : List Int) (f1 : Yt23 → Option (Ex Yt26 Int)) (v15 : Int) (v16 : Int) : Option (Ex Yt26 Int) :=
 (bif (decide (v16 < (z1.2.2.2.2.2.2.1.length : Int))) then
 (ix z1.2.2.2.2.2.2.1 v16).bind (fun z17 => (ix v10 0).bind (fun z18 => (bif (decide (z17 ≥ z18)) then
 some (.ret (.ret (-1)))
 else f1 (v15, (IntKind.i64.wrap (v16 + 1))))))
 else some (.go v15))
@[simp] noncomputable def J_52 (z1 : SNode) (v19 : Int) : Option Yt26 :=
 some (.ret (z1.2.2.2.2.2.2.1.length : Int))
@[simp] noncomputable def J_53 (v10 : List Int) (v24 : Bool) : Option Yt26 :=
 (bif v24 then
 some (.ret (-1))
 else (ix v10 0).bind (fun z25 => (ix v10 1).bind (fun z26 => some (.ret (IntKind.i64.wrap (z25 + z26))))))
@[simp] noncomputable def J_31 (z1 : SNode) (v9 : Int) (v10 : List Int) (v13 : Bool) : Option Yt26 :=
 (bif v13 then
 (ix v10 0).bind (fun z14 => (bif (decide (z1.2.2.1 ≥ z14)) then
 some (.ret (-1))
 else some (.go v9)))
 else (bif (z1.1 == 2) then
 joinK (loopF (fun f s => L_1q z1 v10 f s.1 s.2) (v9, 0))
 (fun s => J_52 z1 s)
 else (bif (z1.1 == 3) then
 joinK ((ix v10 0).bind (fun z20 => (bif (decide (z1.2.2.1 ≥ z20)) then
 some (.go true)
 else (ix v10 1).bind (fun z21 => (bif (decide (z1.2.2.2.2.1 ≥ z21)) then
 some (.go true)
 else (ix v10 0).bind (fun z22 => (ix v10 1).bind (fun z23 => some (.go (decide ((IntKind.i64.wrap (z22 + z23)) > 64))))))))))
 (fun s => J_53 v10 s)
 else (bif (z1.1 == 4) then
 (ix v10 0).bind (fun z27 => (ix v10 1).bind (fun z28 => (bif (z27 != z28) then
 some (.ret (-1))
 else some (.go v9))))
 else some (.go v9)))))
@[simp] noncomputable def J_51 (v10 : List Int) (v29 : Int) : Option Int :=
 (ix v10 0).bind (fun z30 => some z30)
@[simp] noncomputable def J_6 (a0 : List STable) (z1 : SNode) (v9 : Int) (v10 : List Int) : Option Int :=
 joinK ((bif (z1.1 == 0) then
 (F_3h a0 z1.2.1).bind (fun y11 => (bif (decide (y11 < 0)) then
 some (.ret (-1))
 else (ix a0 y11).bind (fun z12 => some (.ret z12.2.1))))
 else joinK ((bif (z1.1 == 1) then
 some (.go true)
 else some (.go (z1.1 == 5))))
 (fun s => J_31 z1 v9 v10 s)))
 (fun s => J_51 v10 s)
theorem U_3 (a0 : List STable) (a1 : List SNode) (a2 : Int) : Le ((ix a1 a2).bind (fun z1 => (F_1h a1 a2).bind (fun y2 => joinK (loopF (fun f s => L_4 a0 a1 y2 f s.1 s.2.1 s.2.2) (0, [], 0))
 (fun s => J_6 a0 z1 s.1 s.2)))) (F_u a0 a1 a2) := callL_le (tt := tt) (FT := FT) (SP := SP) (j := 41) rfl (by kernel_rfl)
noncomputable def L_1n (a0 : List SNode) (a1 : Int) (f0 : Yt36 → Option Yt34) (v1 : List Int) (v2 : Int) (v3 : Int) : Option Yt34 :=
 (ix a0 a1).bind (fun z4 => (F_1d z4.1).bind (fun y5 => (bif (decide (v3 < y5)) then
 (apx v1 ([v2])).bind (fun z6 => (F_7 a0 v2 10).bind (fun y7 => f0 (z6, y7.1, (IntKind.i64.wrap (v3 + 1)))))
 else some (.go v1))))
@[simp] noncomputable def J_4x (v8 : List Int) : Option Yt10 :=
 some v8
theorem U_3b (a0 : List SNode) (a1 : Int) : Le (joinK (loopF (fun f s => L_1n a0 a1 f s.1 s.2.1 s.2.2) ([], (IntKind.i64.wrap (a1 + 1)), 0))
 (fun s => J_4x s)) (F_1h a0 a1) := callL_le (tt := tt) (FT := FT) (SP := SP) (j := 42) rfl (by kernel_rfl)
noncomputable def L_1p (a0 : List STable) (a1 : ByteArray) (f0 : Yt23 → Option Yt26) (v1 : Int) (v2 : Int) : Option Yt26 :=
 (bif (decide (v2 < (a0.length : Int))) then
 (ix a0 v2).bind (fun z3 => (bif (z3.1.toList == a1.toList) then
 some (.ret v2)
 else f0 (v1, (IntKind.i64.wrap (v2 + 1)))))
 else some (.go v1))
@[simp] noncomputable def J_50 (v4 : Int) : Option Int :=
 some (-1)
theorem U_3f (a0 : List STable) (a1 : ByteArray) : Le (joinK (loopF (fun f s => L_1p a0 a1 f s.1 s.2) (0, 0))
 (fun s => J_50 s)) (F_3h a0 a1) := callL_le (tt := tt) (FT := FT) (SP := SP) (j := 43) rfl (by kernel_rfl)
@[simp] noncomputable def J_2e (a0 : List STable) (a1 : List SNode) (a2 : SStep) (y1 : List SNode) (v9 : Bool) : Option Yt22 :=
 (bif v9 then
 some (y1, false)
 else (F_n a0 a1 a2.1 a2.2.1).bind (fun y10 => (bif (!y10.2) then
 some (y1, false)
 else (F_7 a1 a2.2.1 10).bind (fun y11 => (slx a1 0 a2.2.1).bind (fun z12 => (slx a1 y11.1 (a1.length : Int)).bind (fun z13 => (F_1 ([z12, y10.1, z13])).bind (fun y14 => (F_c y14).bind (fun y15 => (bif (!y15) then
 some (y1, false)
 else some (y14, true))))))))))
@[simp] noncomputable def J_2d (a0 : List STable) (a1 : List SNode) (a2 : SStep) (y1 : List SNode) (v5 : Bool) : Option Yt22 :=
 (bif v5 then
 some (y1, false)
 else (F_1j a2.1).bind (fun y6 => joinK ((ix a1 a2.2.1).bind (fun z7 => (bif (z7.1 != y6.1) then
 some (.go true)
 else (ix a1 (IntKind.i64.wrap (a2.2.1 + 1))).bind (fun z8 => some (.go (z8.1 != y6.2))))))
 (fun s => J_2e a0 a1 a2 y1 s)))
theorem U_2c (a0 : List STable) (a1 : List SNode) (a2 : SStep) : Le ((F_f a1).bind (fun y1 => joinK ((F_l a0 a1).bind (fun y2 => (bif (!y2) then
 some (.go true)
 else (F_2 a2.1 0 11).bind (fun y3 => (bif (!y3) then
 some (.go true)
 else (F_2 a2.2.1 0 (IntKind.i64.wrap ((a1.length : Int) - 2))).bind (fun y4 => some (.go (!y4))))))))
 (fun s => J_2d a0 a1 a2 y1 s))) (F_k a0 a1 a2) := callL_le (tt := tt) (FT := FT) (SP := SP) (j := 44) rfl (by kernel_rfl)
theorem U_3n (a0 : Int) : Le ((ix ([1, 1, 6, 5, 1, 1, 1, 7, 2, 6, 1, 7]) a0).bind (fun z1 => (ix ([1, 5, 6, 5, 4, 3, 3, 7, 2, 2, 2, 5]) a0).bind (fun z2 => some (z1, z2)))) (F_1j a0) := callL_le (tt := tt) (FT := FT) (SP := SP) (j := 45) rfl (by kernel_rfl)
noncomputable def L_d (a1 : List SNode) (y3 : List Int) (f0 : ((List (List SNode)) × Int) → Option (Ex Yt22 (List (List SNode)))) (v4 : List (List SNode)) (v5 : Int) : Option (Ex Yt22 (List (List SNode))) :=
 (bif (decide (v5 < (y3.length : Int))) then
 (ix y3 v5).bind (fun z6 => (F_7 a1 z6 10).bind (fun y7 => (ix y3 v5).bind (fun z8 => (slx a1 z8 y7.1).bind (fun z9 => (apx v4 ([z9])).bind (fun z10 => f0 (z10, (IntKind.i64.wrap (v5 + 1))))))))
 else some (.go v4))
@[simp] noncomputable def J_5c (v11 : List (List SNode)) (v17 : Int) (v18 : ByteArray) (v19 : Int) (v20 : Int) (v21 : Int) (v22 : Bool) (v23 : List Int) : Option Yt12 :=
 (ix v11 0).bind (fun z24 => (ix v11 0).bind (fun z25 => (F_1 ([[(v17, (v18, (v19, (v20, (v21, (v22, (v23, ())))))))], z25])).bind (fun y26 => some (.ret (y26, true)))))
@[simp] noncomputable def J_5b (z1 : SNode) (z2 : SNode) (v11 : List (List SNode)) (v16 : Bool) : Option Yt12 :=
 (bif v16 then
 some (.ret ([], false))
 else joinK ((bif (decide (z1.2.2.2.2.1 < z2.2.2.2.2.1)) then
 some (.go (z2.1, z2.2.1, z2.2.2.1, z2.2.2.2.1, z1.2.2.2.2.1, z2.2.2.2.2.2.1, z2.2.2.2.2.2.2.1))
 else some (.go (z2.1, z2.2.1, z2.2.2.1, z2.2.2.2.1, z2.2.2.2.2.1, z2.2.2.2.2.2.1, z2.2.2.2.2.2.2.1))))
 (fun s => J_5c v11 s.1 s.2.1 s.2.2.1 s.2.2.2.1 s.2.2.2.2.1 s.2.2.2.2.2.1 s.2.2.2.2.2.2))
noncomputable def L_1r (z1 : SNode) (z2 : SNode) (f1 : Yt42 → Option (Ex Yt12 Yt10)) (v51 : List Int) (v52 : Int) : Option (Ex Yt12 Yt10) :=
 (bif (decide (v52 < (z1.2.2.2.2.2.2.1.length : Int))) then
 (ix z1.2.2.2.2.2.2.1 v52).bind (fun z53 => (ix z2.2.2.2.2.2.2.1 z53).bind (fun z54 => (apx v51 ([z54])).bind (fun z55 => f1 (z55, (IntKind.i64.wrap (v52 + 1))))))
 else some (.go v51))
@[simp] noncomputable def J_5e (z1 : SNode) (v11 : List (List SNode)) (v56 : List Int) : Option Yt12 :=
 (ix v11 0).bind (fun z57 => (ix v11 0).bind (fun z58 => (F_1 ([[(z1.1, (z1.2.1, (z1.2.2.1, (z1.2.2.2.1, (z1.2.2.2.2.1, (z1.2.2.2.2.2.1, (v56, ())))))))], z58])).bind (fun y59 => some (.ret (y59, true)))))
@[simp] noncomputable def J_5d (a0 : List STable) (a1 : List SNode) (a2 : Int) (z1 : SNode) (z2 : SNode) (y3 : List Int) (v11 : List (List SNode)) (v35 : Bool) : Option Yt12 :=
 (bif v35 then
 (ix y3 0).bind (fun z36 => (F_u a0 a1 z36).bind (fun y37 => (bif (a2 == 5) then
 (ix v11 0).bind (fun z38 => (ix v11 0).bind (fun z39 => (ix v11 1).bind (fun z40 => (ix v11 1).bind (fun z41 => (F_1 ([[(z2.1, (z2.2.1, (z2.2.2.1, (z2.2.2.2.1, (z2.2.2.2.2.1, (z2.2.2.2.2.2.1, (z2.2.2.2.2.2.2.1, ())))))))], [(z1.1, (z1.2.1, (z1.2.2.1, (z1.2.2.2.1, (z1.2.2.2.2.1, (z1.2.2.2.2.2.1, (z1.2.2.2.2.2.2.1, ())))))))], z39, z41])).bind (fun y42 => some (.ret (y42, (decide (z1.2.2.1 < y37)))))))))
 else (ix v11 0).bind (fun z43 => (ix v11 0).bind (fun z44 => (ix v11 1).bind (fun z45 => (ix v11 1).bind (fun z46 => (F_1 ([[(z2.1, (z2.2.1, (z2.2.2.1, (z2.2.2.2.1, (z2.2.2.2.2.1, (z2.2.2.2.2.2.1, (z2.2.2.2.2.2.2.1, ())))))))], z44, [(z1.1, (z1.2.1, ((IntKind.i64.wrap (z1.2.2.1 - y37)), (z1.2.2.2.1, (z1.2.2.2.2.1, (z1.2.2.2.2.2.1, (z1.2.2.2.2.2.2.1, ())))))))], z46])).bind (fun y47 => some (.ret (y47, (decide ((IntKind.i64.wrap (z1.2.2.1 - y37)) ≥ 0))))))))))))
 else (bif (a2 == 7) then
 (ix v11 0).bind (fun z48 => (ix v11 0).bind (fun z49 => (F_1 ([[(z2.1, (z2.2.1, (z2.2.2.1, (z2.2.2.2.1, (z2.2.2.2.2.1, (z2.2.2.2.2.2.1, (z2.2.2.2.2.2.2.1, ())))))))], z49])).bind (fun y50 => some (.ret (y50, true)))))
 else (bif (a2 == 8) then
 joinK (loopF (fun f s => L_1r z1 z2 f s.1 s.2) ([], 0))
 (fun s => J_5e z1 v11 s)
 else some (.go ([], false, z1.1, z1.2.1, z1.2.2.1, z1.2.2.2.1, z1.2.2.2.2.1, z1.2.2.2.2.2.1, z1.2.2.2.2.2.2.1, z2.1, z2.2.1, z2.2.2.1, z2.2.2.2.1, z2.2.2.2.2.1, z2.2.2.2.2.2.1, z2.2.2.2.2.2.2.1)))))
@[simp] noncomputable def J_5a (a0 : List STable) (a1 : List SNode) (a2 : Int) (z1 : SNode) (z2 : SNode) (y3 : List Int) (v11 : List (List SNode)) (v12 : Bool) : Option Yt12 :=
 (bif v12 then
 (ix v11 0).bind (fun z13 => (ix v11 0).bind (fun z14 => (F_1 ([[(z2.1, (z2.2.1, (z2.2.2.1, (z2.2.2.2.1, (z2.2.2.2.2.1, (z2.2.2.2.2.2.1, (z2.2.2.2.2.2.2.1, ())))))))], [(z1.1, (z1.2.1, (z1.2.2.1, (z1.2.2.2.1, (z1.2.2.2.2.1, (z1.2.2.2.2.2.1, (z1.2.2.2.2.2.2.1, ())))))))], z14])).bind (fun y15 => some (.ret (y15, true)))))
 else (bif (a2 == 2) then
 joinK ((bif z1.2.2.2.2.2.1 then
 some (.go true)
 else some (.go z2.2.2.2.2.2.1)))
 (fun s => J_5b z1 z2 v11 s)
 else (bif (a2 == 3) then
 (ix v11 0).bind (fun z27 => (ix v11 0).bind (fun z28 => (F_1 ([[(z2.1, (z2.2.1, (z2.2.2.1, (z2.2.2.2.1, (z2.2.2.2.2.1, (z2.2.2.2.2.2.1, (z2.2.2.2.2.2.2.1, ())))))))], z28])).bind (fun y29 => some (.ret (y29, (z1.2.2.1 == z2.2.2.1))))))
 else (bif (a2 == 4) then
 (ix v11 0).bind (fun z30 => (ix v11 0).bind (fun z31 => (ix v11 1).bind (fun z32 => (ix v11 1).bind (fun z33 => (F_1 ([[(z2.1, (z2.2.1, (z2.2.2.1, (z2.2.2.2.1, (z2.2.2.2.2.1, (z2.2.2.2.2.2.1, (z2.2.2.2.2.2.2.1, ())))))))], [(z1.1, (z1.2.1, (z1.2.2.1, (z1.2.2.2.1, (z1.2.2.2.2.1, (z1.2.2.2.2.2.1, (z1.2.2.2.2.2.2.1, ())))))))], z31, [(z1.1, (z1.2.1, (z1.2.2.1, (z1.2.2.2.1, (z1.2.2.2.2.1, (z1.2.2.2.2.2.1, (z1.2.2.2.2.2.2.1, ())))))))], z33])).bind (fun y34 => some (.ret (y34, true)))))))
 else joinK ((bif (a2 == 5) then
 some (.go true)
 else some (.go (a2 == 6))))
 (fun s => J_5d a0 a1 a2 z1 z2 y3 v11 s)))))
@[simp] noncomputable def J_59 (v11 : List (List SNode)) (v60 : List SNode) (v61 : Bool) (v62 : Int) (v63 : ByteArray) (v64 : Int) (v65 : Int) (v66 : Int) (v67 : Bool) (v68 : List Int) (v69 : Int) (v70 : ByteArray) (v71 : Int) (v72 : Int) (v73 : Int) (v74 : Bool) (v75 : List Int) : Option Yt22 :=
 (ix v75 v64).bind (fun z76 => (ix v11 0).bind (fun z77 => (ix v11 0).bind (fun z78 => (F_1 ([[(v69, (v70, (v71, (v72, (v73, (v74, (v75, ())))))))], [(v62, (v63, (z76, (v65, (v66, (v67, (v68, ())))))))], z78])).bind (fun y79 => some (y79, true)))))
@[simp] noncomputable def J_g (a0 : List STable) (a1 : List SNode) (a2 : Int) (z1 : SNode) (z2 : SNode) (y3 : List Int) (v11 : List (List SNode)) : Option Yt22 :=
 joinK (joinK ((bif (a2 == 0) then
 some (.go true)
 else (bif (a2 == 1) then
 some (.go true)
 else (bif (a2 == 9) then
 some (.go true)
 else some (.go (a2 == 11))))))
 (fun s => J_5a a0 a1 a2 z1 z2 y3 v11 s))
 (fun s => J_59 v11 s.1 s.2.1 s.2.2.1 s.2.2.2.1 s.2.2.2.2.1 s.2.2.2.2.2.1 s.2.2.2.2.2.2.1 s.2.2.2.2.2.2.2.1 s.2.2.2.2.2.2.2.2.1 s.2.2.2.2.2.2.2.2.2.1 s.2.2.2.2.2.2.2.2.2.2.1 s.2.2.2.2.2.2.2.2.2.2.2.1 s.2.2.2.2.2.2.2.2.2.2.2.2.1 s.2.2.2.2.2.2.2.2.2.2.2.2.2.1 s.2.2.2.2.2.2.2.2.2.2.2.2.2.2.1 s.2.2.2.2.2.2.2.2.2.2.2.2.2.2.2)
theorem U_6 (a0 : List STable) (a1 : List SNode) (a2 : Int) (a3 : Int) : Le ((ix a1 a3).bind (fun z1 => (ix a1 (IntKind.i64.wrap (a3 + 1))).bind (fun z2 => (F_1h a1 (IntKind.i64.wrap (a3 + 1))).bind (fun y3 => joinK (loopF (fun f s => L_d a1 y3 f s.1 s.2) ([], 0))
 (fun s => J_g a0 a1 a2 z1 z2 y3 s))))) (F_n a0 a1 a2 a3) := callL_le (tt := tt) (FT := FT) (SP := SP) (j := 46) rfl (by kernel_rfl)
@[simp] noncomputable def J_2g (a0 : List STable) (a1 : List SNode) (a2 : SStep) (y1 : List SNode) (v9 : Bool) : Option Yt22 :=
 (bif v9 then
 some (y1, false)
 else (F_n a0 a1 a2.1 a2.2.1).bind (fun y10 => (bif (!y10.2) then
 some (y1, false)
 else (F_7 a1 a2.2.1 10).bind (fun y11 => (slx a1 0 a2.2.1).bind (fun z12 => (slx a1 y11.1 (a1.length : Int)).bind (fun z13 => (F_1 ([z12, y10.1, z13])).bind (fun y14 => (F_c y14).bind (fun y15 => (bif (!y15) then
 some (y1, false)
 else some (y14, true))))))))))
@[simp] noncomputable def J_2f (a0 : List STable) (a1 : List SNode) (a2 : SStep) (y1 : List SNode) (v5 : Bool) : Option Yt22 :=
 (bif v5 then
 some (y1, false)
 else (F_1j a2.1).bind (fun y6 => joinK ((ix a1 a2.2.1).bind (fun z7 => (bif (z7.1 != y6.1) then
 some (.go true)
 else (ix a1 (IntKind.i64.wrap (a2.2.1 + 1))).bind (fun z8 => some (.go (z8.1 != y6.2))))))
 (fun s => J_2g a0 a1 a2 y1 s)))
theorem U_2d (a0 : List STable) (a1 : List SNode) (a2 : SStep) : Le ((F_f a1).bind (fun y1 => joinK ((F_l a0 a1).bind (fun y2 => (bif (!y2) then
 some (.go true)
 else (F_2 a2.1 0 11).bind (fun y3 => (bif (!y3) then
 some (.go true)
 else (F_2 a2.2.1 0 (IntKind.i64.wrap ((a1.length : Int) - 2))).bind (fun y4 => some (.go (!y4))))))))
 (fun s => J_2f a0 a1 a2 y1 s))) (F_2v a0 a1 a2) := callL_le (tt := tt) (FT := FT) (SP := SP) (j := 47) rfl (by kernel_rfl)
noncomputable def L_1c (a0 : List STable) (a2 : List SStep) (f0 : ((List SNode) × Int × (List SNode) × Int) → Option Yt38) (v2 : List SNode) (v3 : Int) (v4 : List SNode) (v5 : Int) : Option Yt38 :=
 (bif (decide (v5 < (a2.length : Int))) then
 (ix a2 v5).bind (fun z6 => (F_k a0 v4 z6).bind (fun y7 => (bif (!y7.2) then
 some (.ret (v4, v5))
 else f0 (v2, v3, y7.1, (IntKind.i64.wrap (v5 + 1))))))
 else some (.go (v2, v3, v4)))
@[simp] noncomputable def J_4e (a2 : List SStep) (v8 : List SNode) (v9 : Int) (v10 : List SNode) : Option Yt29 :=
 some (v10, (a2.length : Int))
theorem U_2l (a0 : List STable) (a1 : List SNode) (a2 : List SStep) : Le ((F_f a1).bind (fun y1 => (bif (decide ((a2.length : Int) > 20)) then
 some (y1, 0)
 else joinK (loopF (fun f s => L_1c a0 a2 f s.1 s.2.1 s.2.2.1 s.2.2.2) ([], 0, y1, 0))
 (fun s => J_4e a2 s.1 s.2.1 s.2.2)))) (F_1e a0 a1 a2) := callL_le (tt := tt) (FT := FT) (SP := SP) (j := 48) rfl (by kernel_rfl)
@[simp] noncomputable def J_38 (v5 : Bool) : Option Bool :=
 some v5
@[simp] noncomputable def J_h (a0 : List STable) (a1 : List SNode) (a2 : List SNode) (a3 : List SStep) (v2 : Bool) : Option Bool :=
 (bif v2 then
 some false
 else (F_1t a0 a1 a3).bind (fun y3 => joinK ((bif (y3.2 == (a3.length : Int)) then
 (F_1v y3.1 a2).bind (fun y4 => some (.go y4))
 else some (.go false)))
 (fun s => J_38 s)))
theorem U_b (a0 : List STable) (a1 : List SNode) (a2 : List SNode) (a3 : List SStep) : Le (joinK ((F_p a0 a1).bind (fun y1 => (bif (!y1) then
 some (.go true)
 else some (.go (decide ((a3.length : Int) > 20))))))
 (fun s => J_h a0 a1 a2 a3 s)) (F_1l a0 a1 a2 a3) := callL_le (tt := tt) (FT := FT) (SP := SP) (j := 49) rfl (by kernel_rfl)
theorem U_v (a0 : List STable) (a1 : List SNode) : Le ((F_1y a0 a1).bind (fun y1 => some (decide (y1 ≥ 0)))) (F_p a0 a1) := callL_le (tt := tt) (FT := FT) (SP := SP) (j := 50) rfl (by kernel_rfl)
@[simp] noncomputable def J_3d (a0 : List STable) (a1 : List SNode) (v3 : Bool) : Option Int :=
 (bif v3 then
 some (-1)
 else (F_r a0 a1 0).bind (fun y4 => some y4))
theorem U_w (a0 : List STable) (a1 : List SNode) : Le (joinK ((F_o a0).bind (fun y1 => (bif (!y1) then
 some (.go true)
 else (F_h a1).bind (fun y2 => some (.go (!y2))))))
 (fun s => J_3d a0 a1 s)) (F_1y a0 a1) := callL_le (tt := tt) (FT := FT) (SP := SP) (j := 51) rfl (by kernel_rfl)
@[simp] noncomputable def J_3c (v1 : Bool) (v2 : Int) (f0 : Yt31 → Option Yt18) (v7 : Bool) : Option Yt18 :=
 (bif v7 then
 some (.ret false)
 else f0 (v1, (IntKind.i64.wrap (v2 + 1))))
noncomputable def L_g (a0 : List STable) (f0 : Yt31 → Option Yt18) (v1 : Bool) (v2 : Int) : Option Yt18 :=
 (bif (decide (v2 < (a0.length : Int))) then
 (ix a0 v2).bind (fun z3 => joinK ((F_12 z3.1).bind (fun y4 => (bif (!y4) then
 some (.go true)
 else (F_4 z3.2.1 1 6).bind (fun y5 => (bif (!y5) then
 some (.go true)
 else (bif (decide (v2 > 0)) then
 (ix a0 (IntKind.i64.wrap (v2 - 1))).bind (fun z6 => some (.go (!(Op.bytesLess z6.1.toList z3.1.toList))))
 else some (.go false)))))))
 (fun s => J_3c v1 v2 f0 s))
 else some (.go v1))
@[simp] noncomputable def J_3b (a0 : List STable) (v8 : Bool) : Option Bool :=
 some (decide ((a0.length : Int) ≤ 8))
theorem U_q (a0 : List STable) : Le (joinK (loopF (fun f s => L_g a0 f s.1 s.2) (false, 0))
 (fun s => J_3b a0 s)) (F_o a0) := callL_le (tt := tt) (FT := FT) (SP := SP) (j := 52) rfl (by kernel_rfl)
@[simp] noncomputable def J_18 (v1 : Bool) (v2 : Int) (f0 : Yt31 → Option Yt18) (v5 : Bool) : Option Yt18 :=
 (bif v5 then
 some (.ret false)
 else f0 (v1, (IntKind.i64.wrap (v2 + 1))))
@[simp] noncomputable def J_17 (v1 : Bool) (v2 : Int) (z3 : Int) (f0 : Yt31 → Option Yt18) (v4 : Bool) : Option Yt18 :=
 joinK ((bif (!v4) then
 (bif (v2 == 0) then
 some (.go true)
 else (bif (decide (z3 < 48)) then
 some (.go true)
 else some (.go (decide (z3 > 57)))))
 else some (.go false)))
 (fun s => J_18 v1 v2 f0 s)
noncomputable def L_l (a0 : ByteArray) (f0 : Yt31 → Option Yt18) (v1 : Bool) (v2 : Int) : Option Yt18 :=
 (bif (decide (v2 < (a0.size : Int))) then
 (bix a0 v2).bind (fun z3 => joinK ((bif (decide (z3 ≥ 97)) then
 some (.go (decide (z3 ≤ 122)))
 else some (.go false)))
 (fun s => J_17 v1 v2 z3 f0 s))
 else some (.go v1))
@[simp] noncomputable def J_3e (a0 : ByteArray) (v6 : Bool) : Option Bool :=
 (F_4 (a0.size : Int) 1 12).bind (fun y7 => some y7)
theorem U_x (a0 : ByteArray) : Le (joinK (loopF (fun f s => L_l a0 f s.1 s.2) (false, 0))
 (fun s => J_3e a0 s)) (F_12 a0) := callL_le (tt := tt) (FT := FT) (SP := SP) (j := 53) rfl (by kernel_rfl)
@[simp] noncomputable def J_3g (v1 : Bool) : Option Bool :=
 some v1
theorem U_15 (a0 : Int) (a1 : Int) (a2 : Int) : Le (joinK ((bif (decide (a0 ≥ a1)) then
 some (.go (decide (a0 ≤ a2)))
 else some (.go false)))
 (fun s => J_3g s)) (F_4 a0 a1 a2) := callL_le (tt := tt) (FT := FT) (SP := SP) (j := 54) rfl (by kernel_rfl)
@[simp] noncomputable def J_u (a0 : List SNode) (v3 : Bool) : Option Bool :=
 (bif v3 then
 some false
 else (F_8 a0 0 1).bind (fun y4 => some (y4 == (a0.length : Int))))
theorem U_k (a0 : List SNode) : Le (joinK ((F_4 (a0.length : Int) 1 40).bind (fun y1 => (bif (!y1) then
 some (.go true)
 else (F_2d a0).bind (fun y2 => some (.go y2)))))
 (fun s => J_u a0 s)) (F_h a0) := callL_le (tt := tt) (FT := FT) (SP := SP) (j := 55) rfl (by kernel_rfl)
theorem U_1p (a0 : List SNode) : Le ((F_2m a0).bind (fun y1 => some (decide (y1 ≥ 0)))) (F_2d a0) := callL_le (tt := tt) (FT := FT) (SP := SP) (j := 56) rfl (by kernel_rfl)
noncomputable def L_13 (a0 : List SNode) (f0 : Yt23 → Option Yt26) (v1 : Int) (v2 : Int) : Option Yt26 :=
 (bif (decide (v2 < (a0.length : Int))) then
 (ix a0 v2).bind (fun z3 => (F_1s z3).bind (fun y4 => (bif y4 then
 some (.ret v2)
 else f0 (v1, (IntKind.i64.wrap (v2 + 1))))))
 else some (.go v1))
@[simp] noncomputable def J_3w (v5 : Int) : Option Int :=
 some (-1)
theorem U_1z (a0 : List SNode) : Le (joinK (loopF (fun f s => L_13 a0 f s.1 s.2) (0, 0))
 (fun s => J_3w s)) (F_2m a0) := callL_le (tt := tt) (FT := FT) (SP := SP) (j := 57) rfl (by kernel_rfl)
theorem U_l (a0 : SNode) : Le ((F_1p (a0.1, (a0.2.1, (a0.2.2.1, (a0.2.2.2.1, (a0.2.2.2.2.1, (a0.2.2.2.2.2.1, (a0.2.2.2.2.2.2.1, ())))))))).bind (fun y1 => some (!y1))) (F_1s a0) := callL_le (tt := tt) (FT := FT) (SP := SP) (j := 58) rfl (by kernel_rfl)
@[simp] noncomputable def J_n (a0 : SNode) (v7 : Bool) : Option Yt21 :=
 some (.go (0, a0.2.1, 0, 0, 0, false, a0.2.2.2.2.2.2.1, v7))
@[simp] noncomputable def J_m (a0 : SNode) (v4 : Bool) : Option Yt21 :=
 joinK ((bif (a0.2.2.2.1 == 3) then
 (bif v4 then
 (bif (a0.2.2.2.2.1 == 0) then
 some (.go (!a0.2.2.2.2.2.1))
 else some (.go false))
 else some (.go false))
 else (bif a0.2.2.2.2.2.1 then
 (bif v4 then
 (F_14 a0.2.2.2.2.1).bind (fun y5 => some (.go y5))
 else some (.go false))
 else (bif v4 then
 (F_13 a0.2.2.2.2.1).bind (fun y6 => some (.go y6))
 else some (.go false)))))
 (fun s => J_n a0 s)
@[simp] noncomputable def J_o (a0 : SNode) (v10 : Bool) : Option Yt21 :=
 some (.go (0, a0.2.1, a0.2.2.1, a0.2.2.2.1, a0.2.2.2.2.1, a0.2.2.2.2.2.1, [], v10))
@[simp] noncomputable def J_p (a0 : SNode) (v13 : Bool) : Option Yt21 :=
 some (.go (0, a0.2.1, 0, a0.2.2.2.1, 0, a0.2.2.2.2.2.1, a0.2.2.2.2.2.2.1, v13))
@[simp] noncomputable def J_q (a0 : SNode) (v17 : Bool) : Option Yt21 :=
 some (.go (0, a0.2.1, a0.2.2.1, a0.2.2.2.1, 0, false, a0.2.2.2.2.2.2.1, v17))
@[simp] noncomputable def J_r (a0 : SNode) (v18 : Bool) : Option Yt21 :=
 (bif v18 then
 some (.go (0, a0.2.1, a0.2.2.1, a0.2.2.2.1, a0.2.2.2.2.1, a0.2.2.2.2.2.1, a0.2.2.2.2.2.2.1, true))
 else some (.go (0, a0.2.1, a0.2.2.1, a0.2.2.2.1, a0.2.2.2.2.1, a0.2.2.2.2.2.1, a0.2.2.2.2.2.2.1, false)))
@[simp] noncomputable def J_39 (v28 : Bool) : Option Bool :=
 some v28
@[simp] noncomputable def J_0 (v19 : Int) (v20 : ByteArray) (v21 : Int) (v22 : Int) (v23 : Int) (v24 : Bool) (v25 : List Int) (v26 : Bool) : Option Bool :=
 joinK ((bif v26 then
 (F_16 (v19, (v20, (v21, (v22, (v23, (v24, (v25, ()))))))) (0, (ByteArray.empty, (0, (0, (0, (false, ([], ())))))))).bind (fun y27 => some (.go y27))
 else some (.go false)))
 (fun s => J_39 s)
theorem U_h (a0 : SNode) : Le (joinK ((bif (a0.1 == 0) then
 (F_12 a0.2.1).bind (fun y1 => some (.go (0, ByteArray.empty, a0.2.2.1, a0.2.2.2.1, a0.2.2.2.2.1, a0.2.2.2.2.2.1, a0.2.2.2.2.2.2.1, y1)))
 else (bif (a0.1 == 1) then
 joinK ((F_b a0.2.2.1).bind (fun y2 => (bif y2 then
 (F_4 a0.2.2.2.1 0 3).bind (fun y3 => some (.go y3))
 else some (.go false))))
 (fun s => J_m a0 s)
 else (bif (a0.1 == 2) then
 joinK ((F_4 (a0.2.2.2.2.2.2.1.length : Int) 1 6).bind (fun y8 => (bif y8 then
 (F_2f a0.2.2.2.2.2.2.1).bind (fun y9 => some (.go (!y9)))
 else some (.go false))))
 (fun s => J_o a0 s)
 else (bif (a0.1 == 3) then
 joinK ((F_b a0.2.2.1).bind (fun y11 => (bif y11 then
 (F_b a0.2.2.2.2.1).bind (fun y12 => some (.go y12))
 else some (.go false))))
 (fun s => J_p a0 s)
 else (bif (a0.1 == 5) then
 (F_b a0.2.2.1).bind (fun y14 => some (.go (0, a0.2.1, 0, a0.2.2.2.1, a0.2.2.2.2.1, a0.2.2.2.2.2.1, a0.2.2.2.2.2.2.1, y14)))
 else (bif (a0.1 == 6) then
 joinK ((F_4 a0.2.2.2.2.1 0 1000000).bind (fun y15 => (bif y15 then
 (bif (!a0.2.2.2.2.2.1) then
 some (.go true)
 else (F_14 a0.2.2.2.2.1).bind (fun y16 => some (.go y16)))
 else some (.go false))))
 (fun s => J_q a0 s)
 else joinK ((bif (a0.1 == 4) then
 some (.go true)
 else some (.go (a0.1 == 7))))
 (fun s => J_r a0 s))))))))
 (fun s => J_0 s.1 s.2.1 s.2.2.1 s.2.2.2.1 s.2.2.2.2.1 s.2.2.2.2.2.1 s.2.2.2.2.2.2.1 s.2.2.2.2.2.2.2)) (F_1p a0) := callL_le (tt := tt) (FT := FT) (SP := SP) (j := 59) rfl (by kernel_rfl)
theorem U_16 (a0 : Int) : Le ((F_4 a0 0 63).bind (fun y1 => some y1)) (F_b a0) := callL_le (tt := tt) (FT := FT) (SP := SP) (j := 60) rfl (by kernel_rfl)
theorem U_18 (a0 : Int) : Le ((F_4 a0 0 39).bind (fun y1 => some y1)) (F_14 a0) := callL_le (tt := tt) (FT := FT) (SP := SP) (j := 61) rfl (by kernel_rfl)
theorem U_17 (a0 : Int) : Le ((F_4 a0 (-1000000) 1000000).bind (fun y1 => some y1)) (F_13 a0) := callL_le (tt := tt) (FT := FT) (SP := SP) (j := 62) rfl (by kernel_rfl)
theorem U_1r (a0 : List Int) : Le ((F_2p a0).bind (fun y1 => some (decide (y1 ≥ 0)))) (F_2f a0) := callL_le (tt := tt) (FT := FT) (SP := SP) (j := 63) rfl (by kernel_rfl)
noncomputable def L_16 (a0 : List Int) (f0 : Yt23 → Option Yt26) (v1 : Int) (v2 : Int) : Option Yt26 :=
 (bif (decide (v2 < (a0.length : Int))) then
 (ix a0 v2).bind (fun z3 => (F_1q z3).bind (fun y4 => (bif y4 then
 some (.ret v2)
 else f0 (v1, (IntKind.i64.wrap (v2 + 1))))))
 else some (.go v1))
@[simp] noncomputable def J_3z (v5 : Int) : Option Int :=
 some (-1)
theorem U_22 (a0 : List Int) : Le (joinK (loopF (fun f s => L_16 a0 f s.1 s.2) (0, 0))
 (fun s => J_3z s)) (F_2p a0) := callL_le (tt := tt) (FT := FT) (SP := SP) (j := 64) rfl (by kernel_rfl)
theorem U_i (a0 : Int) : Le ((F_b a0).bind (fun y1 => some (!y1))) (F_1q a0) := callL_le (tt := tt) (FT := FT) (SP := SP) (j := 65) rfl (by kernel_rfl)
@[simp] noncomputable def J_3j (v2 : Bool) : Option Bool :=
 some v2
theorem U_1d (a0 : SNode) (a1 : SNode) : Le (joinK ((bif (a0.1 == a1.1) then
 (bif (a0.2.1.toList == a1.2.1.toList) then
 (bif (a0.2.2.1 == a1.2.2.1) then
 (bif (a0.2.2.2.1 == a1.2.2.2.1) then
 (bif (a0.2.2.2.2.1 == a1.2.2.2.2.1) then
 (bif (a0.2.2.2.2.2.1 == a1.2.2.2.2.2.1) then
 (F_s a0.2.2.2.2.2.2.1 a1.2.2.2.2.2.2.1).bind (fun y1 => some (.go y1))
 else some (.go false))
 else some (.go false))
 else some (.go false))
 else some (.go false))
 else some (.go false))
 else some (.go false)))
 (fun s => J_3j s)) (F_16 a0 a1) := callL_le (tt := tt) (FT := FT) (SP := SP) (j := 66) rfl (by kernel_rfl)
noncomputable def L_12 (a0 : List Int) (a1 : List Int) (f0 : Yt31 → Option Yt18) (v1 : Bool) (v2 : Int) : Option Yt18 :=
 (bif (decide (v2 < (a0.length : Int))) then
 (ix a0 v2).bind (fun z3 => (ix a1 v2).bind (fun z4 => (bif (z3 != z4) then
 some (.ret false)
 else f0 (v1, (IntKind.i64.wrap (v2 + 1))))))
 else some (.go v1))
@[simp] noncomputable def J_3v (v5 : Bool) : Option Bool :=
 some true
theorem U_1v (a0 : List Int) (a1 : List Int) : Le ((bif ((a0.length : Int) != (a1.length : Int)) then
 some false
 else joinK (loopF (fun f s => L_12 a0 a1 f s.1 s.2) (false, 0))
 (fun s => J_3v s))) (F_s a0 a1) := callL_le (tt := tt) (FT := FT) (SP := SP) (j := 67) rfl (by kernel_rfl)
noncomputable def L_1 (a0 : List SNode) (a2 : Int) (y3 : Int) (f0 : (Int × Int × Int) → Option (Ex Int Yt23)) (v4 : Int) (v5 : Int) (v6 : Int) : Option (Ex Int Yt23) :=
 (bif (decide (v6 < y3)) then
 (F_8 a0 v5 (IntKind.i64.wrap (a2 + 1))).bind (fun y7 => (bif (decide (y7 < 0)) then
 some (.ret (-1))
 else f0 (v4, y7, (IntKind.i64.wrap (v6 + 1)))))
 else some (.go (v4, v5)))
@[simp] noncomputable def J_1 (v8 : Int) (v9 : Int) : Option Int :=
 some v9
@[simp] noncomputable def J_8 (a0 : List SNode) (a1 : Int) (a2 : Int) (v1 : Bool) : Option Int :=
 (bif v1 then
 some (-1)
 else joinK ((ix a0 a1).bind (fun z2 => (F_x z2.1).bind (fun y3 => loopF (fun f s => L_1 a0 a2 y3 f s.1 s.2.1 s.2.2) (0, (IntKind.i64.wrap (a1 + 1)), 0))))
 (fun s => J_1 s.1 s.2))
theorem U_4 (a0 : List SNode) (a1 : Int) (a2 : Int) : Le (joinK ((bif (decide (a1 ≥ (a0.length : Int))) then
 some (.go true)
 else some (.go (decide (a2 > 10)))))
 (fun s => J_8 a0 a1 a2 s)) (F_8 a0 a1 a2) := callL_le (tt := tt) (FT := FT) (SP := SP) (j := 68) rfl (by kernel_rfl)
@[simp] noncomputable def J_37 (v2 : Bool) : Option Int :=
 (bif v2 then
 some 1
 else some (-1))
@[simp] noncomputable def J_36 (a0 : Int) (v1 : Bool) : Option Int :=
 (bif v1 then
 some 2
 else joinK ((bif (a0 == 1) then
 some (.go true)
 else (bif (a0 == 2) then
 some (.go true)
 else (bif (a0 == 5) then
 some (.go true)
 else (bif (a0 == 6) then
 some (.go true)
 else some (.go (a0 == 7)))))))
 (fun s => J_37 s))
theorem U_a (a0 : Int) : Le ((bif (a0 == 0) then
 some 0
 else joinK ((bif (a0 == 3) then
 some (.go true)
 else some (.go (a0 == 4))))
 (fun s => J_36 a0 s))) (F_x a0) := callL_le (tt := tt) (FT := FT) (SP := SP) (j := 69) rfl (by kernel_rfl)
noncomputable def L_2 (a0 : List STable) (a1 : List SNode) (y1 : List Int) (f0 : (Int × Yt10 × Int) → Option (Ex Int (Int × Yt10))) (v2 : Int) (v3 : List Int) (v4 : Int) : Option (Ex Int (Int × Yt10)) :=
 (bif (decide (v4 < (y1.length : Int))) then
 (ix y1 v4).bind (fun z5 => (F_r a0 a1 z5).bind (fun y6 => (bif (decide (y6 < 0)) then
 some (.ret (-1))
 else (apx v3 ([y6])).bind (fun z7 => f0 (v2, z7, (IntKind.i64.wrap (v4 + 1)))))))
 else some (.go (v2, v3)))
@[simp] noncomputable def J_3p (v9 : List Int) (v21 : Bool) : Option Yt26 :=
 (bif v21 then
 some (.ret (-1))
 else (ix v9 0).bind (fun z22 => (ix v9 1).bind (fun z23 => some (.ret (IntKind.i64.wrap (z22 + z23))))))
@[simp] noncomputable def J_1n (v8 : Int) (v9 : List Int) (z10 : SNode) (v13 : Bool) : Option Yt26 :=
 (bif v13 then
 (ix v9 0).bind (fun z14 => (bif (decide (z10.2.2.1 ≥ z14)) then
 some (.ret (-1))
 else some (.go v8)))
 else (bif (z10.1 == 2) then
 (F_1b z10.2.2.2.2.2.2.1).bind (fun y15 => (ix v9 0).bind (fun z16 => (bif (decide (y15 ≥ z16)) then
 some (.ret (-1))
 else some (.ret (z10.2.2.2.2.2.2.1.length : Int)))))
 else (bif (z10.1 == 3) then
 joinK ((ix v9 0).bind (fun z17 => (bif (decide (z10.2.2.1 ≥ z17)) then
 some (.go true)
 else (ix v9 1).bind (fun z18 => (bif (decide (z10.2.2.2.2.1 ≥ z18)) then
 some (.go true)
 else (ix v9 0).bind (fun z19 => (ix v9 1).bind (fun z20 => some (.go (decide ((IntKind.i64.wrap (z19 + z20)) > 64))))))))))
 (fun s => J_3p v9 s)
 else (bif (z10.1 == 4) then
 (ix v9 0).bind (fun z24 => (ix v9 1).bind (fun z25 => (bif (z24 != z25) then
 some (.ret (-1))
 else some (.go v8))))
 else some (.go v8)))))
@[simp] noncomputable def J_3o (v9 : List Int) (v26 : Int) : Option Int :=
 (ix v9 0).bind (fun z27 => some z27)
@[simp] noncomputable def J_3 (a0 : List STable) (a1 : List SNode) (a2 : Int) (v8 : Int) (v9 : List Int) : Option Int :=
 (ix a1 a2).bind (fun z10 => joinK ((bif (z10.1 == 0) then
 (F_18 a0 z10.2.1).bind (fun y11 => (bif (decide (y11 < 0)) then
 some (.ret (-1))
 else (ix a0 y11).bind (fun z12 => some (.ret z12.2.1))))
 else joinK ((bif (z10.1 == 1) then
 some (.go true)
 else some (.go (z10.1 == 5))))
 (fun s => J_1n v8 v9 z10 s)))
 (fun s => J_3o v9 s))
theorem U_2 (a0 : List STable) (a1 : List SNode) (a2 : Int) : Le (joinK ((F_q a1 a2).bind (fun y1 => loopF (fun f s => L_2 a0 a1 y1 f s.1 s.2.1 s.2.2) (0, [], 0)))
 (fun s => J_3 a0 a1 a2 s.1 s.2)) (F_r a0 a1 a2) := callL_le (tt := tt) (FT := FT) (SP := SP) (j := 70) rfl (by kernel_rfl)
noncomputable def L_m (a0 : List SNode) (y2 : Int) (f0 : Yt36 → Option Yt34) (v3 : List Int) (v4 : Int) (v5 : Int) : Option Yt34 :=
 (bif (decide (v5 < y2)) then
 (apx v3 ([v4])).bind (fun z6 => (F_8 a0 v4 1).bind (fun y7 => f0 (z6, y7, (IntKind.i64.wrap (v5 + 1)))))
 else some (.go v3))
@[simp] noncomputable def J_3f (v8 : List Int) : Option Yt10 :=
 some v8
theorem U_z (a0 : List SNode) (a1 : Int) : Le (joinK ((ix a0 a1).bind (fun z1 => (F_x z1.1).bind (fun y2 => loopF (fun f s => L_m a0 y2 f s.1 s.2.1 s.2.2) ([], (IntKind.i64.wrap (a1 + 1)), 0))))
 (fun s => J_3f s)) (F_q a0 a1) := callL_le (tt := tt) (FT := FT) (SP := SP) (j := 71) rfl (by kernel_rfl)
theorem U_1f (a0 : List STable) (a1 : ByteArray) : Le ((F_2o a0 a1).bind (fun y1 => some y1.1)) (F_18 a0 a1) := callL_le (tt := tt) (FT := FT) (SP := SP) (j := 72) rfl (by kernel_rfl)
noncomputable def L_15 (a0 : List STable) (f0 : (Int × Int × ByteArray) → Option (Ex Yt46 Yt46)) (v1 : Int) (v2 : Int) (v3 : ByteArray) : Option (Ex Yt46 Yt46) :=
 (bif (decide (v2 < (a0.length : Int))) then
 (ix a0 v2).bind (fun z4 => (F_26 z4 v3).bind (fun y5 => (bif y5.1 then
 some (.ret (v2, y5.2))
 else f0 (v1, (IntKind.i64.wrap (v2 + 1)), y5.2))))
 else some (.go (v1, v3)))
@[simp] noncomputable def J_3y (v6 : Int) (v7 : ByteArray) : Option Yt46 :=
 some ((-1), v7)
theorem U_21 (a0 : List STable) (a1x0x0 : ByteArray) : Le (joinK (loopF (fun f s => L_15 a0 f s.1 s.2.1 s.2.2) (0, 0, a1x0x0))
 (fun s => J_3y s.1 s.2)) (F_2o a0 a1x0x0) := callL_le (tt := tt) (FT := FT) (SP := SP) (j := 73) rfl (by kernel_rfl)
theorem U_1g (a0 : STable) (c0x0 : ByteArray) : Le (some ((a0.1.toList == c0x0.toList), c0x0)) (F_26 a0 c0x0) := callL_le (tt := tt) (FT := FT) (SP := SP) (j := 74) rfl (by kernel_rfl)
noncomputable def L_18 (a0 : List Int) (f0 : Yt23 → Option Yt26) (v2 : Int) (v3 : Int) : Option Yt26 :=
 (bif (decide (v3 < (a0.length : Int))) then
 (ix a0 v3).bind (fun z4 => f0 ((mmx true v2 z4), (IntKind.i64.wrap (v3 + 1))))
 else some (.go v2))
@[simp] noncomputable def J_40 (v5 : Int) : Option Int :=
 some v5
@[simp] noncomputable def J_1y (a0 : List Int) : Option Int :=
 (ix a0 0).bind (fun z1 => joinK (loopF (fun f s => L_18 a0 f s.1 s.2) (z1, 1))
 (fun s => J_40 s))
theorem U_24 (a0 : List Int) : Le (joinK ((bif (decide ((a0.length : Int) < 1)) then
 none
 else some (.go ())))
 (fun _ => J_1y a0)) (F_1b a0) := callL_le (tt := tt) (FT := FT) (SP := SP) (j := 75) rfl (by kernel_rfl)
noncomputable def L_f (a0 : List STable) (a2 : List SStep) (f0 : ((List SNode) × Int × (List SNode) × Int) → Option Yt38) (v2 : List SNode) (v3 : Int) (v4 : List SNode) (v5 : Int) : Option Yt38 :=
 (bif (decide (v5 < (a2.length : Int))) then
 (ix a2 v5).bind (fun z6 => (F_1k a0 v4 (z6.1, (z6.2.1, ()))).bind (fun y7 => (bif (!y7.2) then
 some (.ret (v4, v5))
 else f0 (v2, v3, y7.1, (IntKind.i64.wrap (v5 + 1))))))
 else some (.go (v2, v3, v4)))
@[simp] noncomputable def J_3a (a2 : List SStep) (v8 : List SNode) (v9 : Int) (v10 : List SNode) : Option Yt29 :=
 some (v10, (a2.length : Int))
theorem U_m (a0 : List STable) (a1 : List SNode) (a2 : List SStep) : Le ((F_6 a1).bind (fun y1 => (bif (decide ((a2.length : Int) > 20)) then
 some (y1, 0)
 else joinK (loopF (fun f s => L_f a0 a2 f s.1 s.2.1 s.2.2.1 s.2.2.2) ([], 0, y1, 0))
 (fun s => J_3a a2 s.1 s.2.1 s.2.2)))) (F_1t a0 a1 a2) := callL_le (tt := tt) (FT := FT) (SP := SP) (j := 76) rfl (by kernel_rfl)
noncomputable def L_s (a0 : List SNode) (f0 : Yt29 → Option Yt27) (v1 : List SNode) (v2 : Int) : Option Yt27 :=
 (bif (decide (v2 < (a0.length : Int))) then
 (ix a0 v2).bind (fun z3 => (F_1a z3.2.2.2.2.2.2.1).bind (fun y4 => (apx v1 ([(z3.1, (z3.2.1, (z3.2.2.1, (z3.2.2.2.1, (z3.2.2.2.2.1, (z3.2.2.2.2.2.1, (y4, ())))))))])).bind (fun z5 => f0 (z5, (IntKind.i64.wrap (v2 + 1))))))
 else some (.go v1))
@[simp] noncomputable def J_3i (v6 : List SNode) : Option (List SNode) :=
 some v6
theorem U_1b (a0 : List SNode) : Le (joinK (loopF (fun f s => L_s a0 f s.1 s.2) ([], 0))
 (fun s => J_3i s)) (F_6 a0) := callL_le (tt := tt) (FT := FT) (SP := SP) (j := 77) rfl (by kernel_rfl)
theorem U_1l (a0 : List Int) : Le ((nilx a0.isEmpty
 (some ([]))
 ((apx ([]) a0).bind (fun z1 => some z1)))) (F_1a a0) := callL_le (tt := tt) (FT := FT) (SP := SP) (j := 78) rfl (by kernel_rfl)
theorem U_9 (a0 : List STable) (a1 : List SNode) (a2 : SStep) : Le ((F_p a0 a1).bind (fun y1 => (bif (!y1) then
 (F_6 a1).bind (fun y2 => some (y2, false))
 else (F_1z a0 a1 (a2.1, (a2.2.1, ()))).bind (fun y3 => some (y3.1, y3.2))))) (F_1k a0 a1 a2) := callL_le (tt := tt) (FT := FT) (SP := SP) (j := 79) rfl (by kernel_rfl)
theorem U_y (a0 : List STable) (a1 : List SNode) (a2 : SStep) : Le ((F_4 a2.2.1 0 (IntKind.i64.wrap ((a1.length : Int) - 1))).bind (fun y1 => (bif (!y1) then
 (F_6 a1).bind (fun y2 => some (y2, false))
 else (F_19 a0 a1 (a2.1, (a2.2.1, ()))).bind (fun y3 => (bif (!y3.2) then
 (F_6 a1).bind (fun y4 => some (y4, false))
 else (slx a1 0 a2.2.1).bind (fun z5 => (F_8 a1 a2.2.1 1).bind (fun y6 => (slx a1 y6 (a1.length : Int)).bind (fun z7 => (F_3 ([z5, y3.1, z7])).bind (fun y8 => (F_6 y8).bind (fun y9 => (F_h y9).bind (fun y10 => (bif (!y10) then
 (F_6 a1).bind (fun y11 => some (y11, false))
 else some (y9, true))))))))))))) (F_1z a0 a1 a2) := callL_le (tt := tt) (FT := FT) (SP := SP) (j := 80) rfl (by kernel_rfl)
@[simp] noncomputable def J_3l (z5 : SNode) (z6 : SNode) (z9 : List SNode) (v10 : Bool) : Option Yt17 :=
 (bif v10 then
 some (.ret ([], false))
 else (F_3 ([[(z5.1, (z5.2.1, (z5.2.2.1, (z5.2.2.2.1, ((mmx false z5.2.2.2.2.1 z6.2.2.2.2.1), (z5.2.2.2.2.2.1, (z5.2.2.2.2.2.2.1, ())))))))], z9])).bind (fun y11 => some (.ret (y11, true))))
noncomputable def L_t (z5 : SNode) (z6 : SNode) (f0 : Yt42 → Option (Ex Yt17 Yt10)) (v32 : List Int) (v33 : Int) : Option (Ex Yt17 Yt10) :=
 (bif (decide (v33 < (z5.2.2.2.2.2.2.1.length : Int))) then
 (ix z5.2.2.2.2.2.2.1 v33).bind (fun z34 => (ix z6.2.2.2.2.2.2.1 z34).bind (fun z35 => (apx v32 ([z35])).bind (fun z36 => f0 (z36, (IntKind.i64.wrap (v33 + 1))))))
 else some (.go v32))
@[simp] noncomputable def J_3n (z6 : SNode) (z9 : List SNode) (v37 : List Int) : Option Yt17 :=
 (F_3 ([[(z6.1, (z6.2.1, (z6.2.2.1, (z6.2.2.2.1, (z6.2.2.2.2.1, (z6.2.2.2.2.2.1, (v37, ())))))))], z9])).bind (fun y38 => some (.ret (y38, true)))
@[simp] noncomputable def J_3m (a0 : List STable) (a1 : List SNode) (a2 : SStep) (z5 : SNode) (z6 : SNode) (y7 : List Int) (y8 : Int) (z9 : List SNode) (v20 : Bool) : Option Yt17 :=
 (bif v20 then
 (ix y7 0).bind (fun z21 => (F_r a0 a1 z21).bind (fun y22 => (bif (a2.1 == 5) then
 (ix y7 0).bind (fun z23 => (slx a1 z23 y8).bind (fun z24 => (F_3 ([[(z6.1, (z6.2.1, (z6.2.2.1, (z6.2.2.2.1, (z6.2.2.2.2.1, (z6.2.2.2.2.2.1, (z6.2.2.2.2.2.2.1, ())))))))], [(z5.1, (z5.2.1, (z5.2.2.1, (z5.2.2.2.1, (z5.2.2.2.2.1, (z5.2.2.2.2.2.1, (z5.2.2.2.2.2.2.1, ())))))))], z24])).bind (fun y25 => some (.ret (y25, (decide (z5.2.2.1 < y22)))))))
 else (ix y7 0).bind (fun z26 => (ix y7 1).bind (fun z27 => (slx a1 z26 z27).bind (fun z28 => (ix y7 1).bind (fun z29 => (slx a1 z29 y8).bind (fun z30 => (F_3 ([[(z6.1, (z6.2.1, (z6.2.2.1, (z6.2.2.2.1, (z6.2.2.2.2.1, (z6.2.2.2.2.2.1, (z6.2.2.2.2.2.2.1, ())))))))], z28, [(z5.1, (z5.2.1, ((IntKind.i64.wrap (z5.2.2.1 - y22)), (z5.2.2.2.1, (z5.2.2.2.2.1, (z5.2.2.2.2.2.1, (z5.2.2.2.2.2.2.1, ())))))))], z30])).bind (fun y31 => some (.ret (y31, (decide ((IntKind.i64.wrap (z5.2.2.1 - y22)) ≥ 0)))))))))))))
 else (bif (a2.1 == 8) then
 joinK (loopF (fun f s => L_t z5 z6 f s.1 s.2) ([], 0))
 (fun s => J_3n z6 z9 s)
 else (bif (a2.1 == 10) then
 (ix z6.2.2.2.2.2.2.1 z5.2.2.1).bind (fun z39 => (F_3 ([[(z6.1, (z6.2.1, (z6.2.2.1, (z6.2.2.2.1, (z6.2.2.2.2.1, (z6.2.2.2.2.2.1, (z6.2.2.2.2.2.2.1, ())))))))], [(z5.1, (z5.2.1, (z39, (z5.2.2.2.1, (z5.2.2.2.2.1, (z5.2.2.2.2.2.1, (z5.2.2.2.2.2.2.1, ())))))))], z9])).bind (fun y40 => some (.ret (y40, true))))
 else some (.go ([], false, [(z6.1, (z6.2.1, (z6.2.2.1, (z6.2.2.2.1, (z6.2.2.2.2.1, (z6.2.2.2.2.2.1, (z6.2.2.2.2.2.2.1, ())))))))])))))
@[simp] noncomputable def J_3k (z5 : SNode) (z9 : List SNode) (v41 : List SNode) (v42 : Bool) (v43 : List SNode) : Option Yt22 :=
 (F_3 ([v43, [(z5.1, (z5.2.1, (z5.2.2.1, (z5.2.2.2.1, (z5.2.2.2.2.1, (z5.2.2.2.2.2.1, (z5.2.2.2.2.2.2.1, ())))))))], z9])).bind (fun y44 => some (y44, true))
@[simp] noncomputable def J_1m (a0 : List STable) (a1 : List SNode) (a2 : SStep) (v4 : Bool) : Option Yt22 :=
 (bif v4 then
 some ([], false)
 else (ix a1 a2.2.1).bind (fun z5 => (ix a1 (IntKind.i64.wrap (a2.2.1 + 1))).bind (fun z6 => (F_q a1 (IntKind.i64.wrap (a2.2.1 + 1))).bind (fun y7 => (F_8 a1 a2.2.1 1).bind (fun y8 => (slx a1 (IntKind.i64.wrap (a2.2.1 + 2)) y8).bind (fun z9 => joinK ((bif (a2.1 == 2) then
 joinK ((bif z5.2.2.2.2.2.1 then
 some (.go true)
 else some (.go z6.2.2.2.2.2.1)))
 (fun s => J_3l z5 z6 z9 s)
 else (bif (a2.1 == 3) then
 (F_3 ([[(z6.1, (z6.2.1, (z6.2.2.1, (z6.2.2.2.1, (z6.2.2.2.2.1, (z6.2.2.2.2.2.1, (z6.2.2.2.2.2.2.1, ())))))))], z9])).bind (fun y12 => some (.ret (y12, (z5.2.2.1 == z6.2.2.1))))
 else (bif (a2.1 == 7) then
 (F_3 ([[(z6.1, (z6.2.1, (z6.2.2.1, (z6.2.2.2.1, (z6.2.2.2.2.1, (z6.2.2.2.2.2.1, (z6.2.2.2.2.2.2.1, ())))))))], z9])).bind (fun y13 => some (.ret (y13, true)))
 else (bif (a2.1 == 4) then
 (ix y7 0).bind (fun z14 => (ix y7 1).bind (fun z15 => (slx a1 z14 z15).bind (fun z16 => (ix y7 1).bind (fun z17 => (slx a1 z17 y8).bind (fun z18 => (F_3 ([[(z6.1, (z6.2.1, (z6.2.2.1, (z6.2.2.2.1, (z6.2.2.2.2.1, (z6.2.2.2.2.2.1, (z6.2.2.2.2.2.2.1, ())))))))], [(z5.1, (z5.2.1, (z5.2.2.1, (z5.2.2.2.1, (z5.2.2.2.2.1, (z5.2.2.2.2.2.1, (z5.2.2.2.2.2.2.1, ())))))))], z16, [(z5.1, (z5.2.1, (z5.2.2.1, (z5.2.2.2.1, (z5.2.2.2.2.1, (z5.2.2.2.2.2.1, (z5.2.2.2.2.2.2.1, ())))))))], z18])).bind (fun y19 => some (.ret (y19, true))))))))
 else joinK ((bif (a2.1 == 5) then
 some (.go true)
 else some (.go (a2.1 == 6))))
 (fun s => J_3m a0 a1 a2 z5 z6 y7 y8 z9 s))))))
 (fun s => J_3k z5 z9 s.1 s.2.1 s.2.2)))))))
theorem U_1 (a0 : List STable) (a1 : List SNode) (a2 : SStep) : Le ((F_25 a2.1).bind (fun y1 => joinK ((bif (decide (y1.1 < 0)) then
 some (.go true)
 else (ix a1 a2.2.1).bind (fun z2 => (bif (z2.1 != y1.1) then
 some (.go true)
 else (ix a1 (IntKind.i64.wrap (a2.2.1 + 1))).bind (fun z3 => some (.go (z3.1 != y1.2)))))))
 (fun s => J_1m a0 a1 a2 s))) (F_19 a0 a1 a2) := callL_le (tt := tt) (FT := FT) (SP := SP) (j := 81) rfl (by kernel_rfl)
@[simp] noncomputable def J_3h (a0 : Int) (v1 : Bool) : Option Yt23 :=
 (bif v1 then
 some (1, 3)
 else (bif (a0 == 7) then
 some (7, 7)
 else (bif (a0 == 8) then
 some (2, 2)
 else (bif (a0 == 9) then
 some (6, 2)
 else (bif (a0 == 10) then
 some (1, 2)
 else (bif (a0 == 11) then
 some (7, 5)
 else some ((-1), (-1))))))))
theorem U_1a (a0 : Int) : Le ((bif (a0 == 0) then
 some (1, 1)
 else (bif (a0 == 1) then
 some (1, 5)
 else (bif (a0 == 2) then
 some (6, 6)
 else (bif (a0 == 3) then
 some (5, 5)
 else (bif (a0 == 4) then
 some (1, 4)
 else joinK ((bif (a0 == 5) then
 some (.go true)
 else some (.go (a0 == 6))))
 (fun s => J_3h a0 s))))))) (F_25 a0) := callL_le (tt := tt) (FT := FT) (SP := SP) (j := 82) rfl (by kernel_rfl)
@[simp] noncomputable def J_1s (v2 : Int) (f0 : Yt23 → Option (Ex (List SNode) Int)) (v4 : Int) : Option (Ex (List SNode) Int) :=
 f0 (v4, (IntKind.i64.wrap (v2 + 1)))
noncomputable def L_w (a0 : List (List SNode)) (f0 : Yt23 → Option (Ex (List SNode) Int)) (v1 : Int) (v2 : Int) : Option (Ex (List SNode) Int) :=
 (bif (decide (v2 < (a0.length : Int))) then
 joinK ((ix a0 v2).bind (fun z3 => (bif (decide ((IntKind.i64.wrap (v1 + (z3.length : Int))) < 0)) then
 none
 else some (.go (IntKind.i64.wrap (v1 + (z3.length : Int)))))))
 (fun s => J_1s v2 f0 s)
 else some (.go v1))
noncomputable def L_x (a0 : List (List SNode)) (f1 : Yt29 → Option Yt27) (v7 : List SNode) (v8 : Int) : Option Yt27 :=
 (bif (decide (v8 < (a0.length : Int))) then
 (ix a0 v8).bind (fun z9 => (apx v7 z9).bind (fun z10 => f1 (z10, (IntKind.i64.wrap (v8 + 1)))))
 else some (.go v7))
@[simp] noncomputable def J_3t (v11 : List SNode) : Option (List SNode) :=
 some v11
@[simp] noncomputable def J_1r (a0 : List (List SNode)) (v5 : Int) : Option (List SNode) :=
 (F_2k v5).bind (fun y6 => joinK (loopF (fun f s => L_x a0 f s.1 s.2) (y6, 0))
 (fun s => J_3t s))
theorem U_1n (a0 : List (List SNode)) : Le (joinK (loopF (fun f s => L_w a0 f s.1 s.2) (0, 0))
 (fun s => J_1r a0 s)) (F_3 a0) := callL_le (tt := tt) (FT := FT) (SP := SP) (j := 83) rfl (by kernel_rfl)
theorem U_1x (a1 : Int) : Le ((bif (decide (a1 < 0)) then
 none
 else (bif (decide ((IntKind.i64.wrap (a1 - (IntKind.i64.wrap (0 - 0)))) > 0)) then
 (mkx (IntKind.i64.wrap (a1 - (IntKind.i64.wrap (0 - 0)))) ((0, (ByteArray.empty, (0, (0, (0, (false, ([], ()))))))) : SNode)).bind (fun z1 => (tkx z1 0).bind (fun z2 => some z2))
 else some ([])))) (F_2k a1) := callL_le (tt := tt) (FT := FT) (SP := SP) (j := 84) rfl (by kernel_rfl)
theorem U_o (a0 : List SNode) (a1 : List SNode) : Le ((F_2i a0 a1).bind (fun y1 => some y1)) (F_1v a0 a1) := callL_le (tt := tt) (FT := FT) (SP := SP) (j := 85) rfl (by kernel_rfl)
noncomputable def L_11 (a0 : List SNode) (a1 : List SNode) (f0 : Yt31 → Option Yt18) (v1 : Bool) (v2 : Int) : Option Yt18 :=
 (bif (decide (v2 < (a0.length : Int))) then
 (ix a0 v2).bind (fun z3 => (ix a1 v2).bind (fun z4 => (F_16 (z3.1, (z3.2.1, (z3.2.2.1, (z3.2.2.2.1, (z3.2.2.2.2.1, (z3.2.2.2.2.2.1, (z3.2.2.2.2.2.2.1, ()))))))) (z4.1, (z4.2.1, (z4.2.2.1, (z4.2.2.2.1, (z4.2.2.2.2.1, (z4.2.2.2.2.2.1, (z4.2.2.2.2.2.2.1, ())))))))).bind (fun y5 => (bif (!y5) then
 some (.ret false)
 else f0 (v1, (IntKind.i64.wrap (v2 + 1)))))))
 else some (.go v1))
@[simp] noncomputable def J_1w (v6 : Bool) : Option Bool :=
 some true
theorem U_1u (a0 : List SNode) (a1 : List SNode) : Le ((bif ((a0.length : Int) != (a1.length : Int)) then
 some false
 else joinK (loopF (fun f s => L_11 a0 a1 f s.1 s.2) (false, 0))
 (fun s => J_1w s))) (F_2i a0 a1) := callL_le (tt := tt) (FT := FT) (SP := SP) (j := 86) rfl (by kernel_rfl)
@[simp] noncomputable def J_43 (v4 : Bool) : Option Bool :=
 some v4
theorem U_2f (a0 : List STable) (a1 : List SNode) (a2 : List SNode) (a3 : List SStep) : Le ((F_1e a0 a1 a3).bind (fun y1 => joinK ((F_l a0 a1).bind (fun y2 => (bif y2 then
 (bif (decide ((a3.length : Int) ≤ 20)) then
 (bif (y1.2 == (a3.length : Int)) then
 (F_31 y1.1 a2).bind (fun y3 => some (.go y3))
 else some (.go false))
 else some (.go false))
 else some (.go false))))
 (fun s => J_43 s))) (F_2w a0 a1 a2 a3) := callL_le (tt := tt) (FT := FT) (SP := SP) (j := 87) rfl (by kernel_rfl)
noncomputable def L_1d (a0 : List SNode) (a1 : List SNode) (f0 : Yt31 → Option Yt18) (v1 : Bool) (v2 : Int) : Option Yt18 :=
 (bif (decide (v2 < (a0.length : Int))) then
 (ix a0 v2).bind (fun z3 => (ix a1 v2).bind (fun z4 => (F_3f z3 z4).bind (fun y5 => (bif (!y5) then
 some (.ret false)
 else f0 (v1, (IntKind.i64.wrap (v2 + 1)))))))
 else some (.go v1))
@[simp] noncomputable def J_2m (v6 : Bool) : Option Bool :=
 some true
theorem U_2m (a0 : List SNode) (a1 : List SNode) : Le ((bif ((a0.length : Int) != (a1.length : Int)) then
 some false
 else joinK (loopF (fun f s => L_1d a0 a1 f s.1 s.2) (false, 0))
 (fun s => J_2m s))) (F_31 a0 a1) := callL_le (tt := tt) (FT := FT) (SP := SP) (j := 88) rfl (by kernel_rfl)
@[simp] noncomputable def J_4y (v2 : Bool) : Option Bool :=
 some v2
theorem U_3d (a0 : SNode) (a1 : SNode) : Le (joinK ((bif (a0.1 == a1.1) then
 (bif (a0.2.1.toList == a1.2.1.toList) then
 (bif (a0.2.2.1 == a1.2.2.1) then
 (bif (a0.2.2.2.1 == a1.2.2.2.1) then
 (bif (a0.2.2.2.2.1 == a1.2.2.2.2.1) then
 (bif (a0.2.2.2.2.2.1 == a1.2.2.2.2.2.1) then
 (F_3e a0.2.2.2.2.2.2.1 a1.2.2.2.2.2.2.1).bind (fun y1 => some (.go y1))
 else some (.go false))
 else some (.go false))
 else some (.go false))
 else some (.go false))
 else some (.go false))
 else some (.go false)))
 (fun s => J_4y s)) (F_3f a0 a1) := callL_le (tt := tt) (FT := FT) (SP := SP) (j := 89) rfl (by kernel_rfl)
noncomputable def L_1o (a0 : List Int) (a1 : List Int) (f0 : Yt31 → Option Yt18) (v1 : Bool) (v2 : Int) : Option Yt18 :=
 (bif (decide (v2 < (a0.length : Int))) then
 (ix a0 v2).bind (fun z3 => (ix a1 v2).bind (fun z4 => (bif (z3 != z4) then
 some (.ret false)
 else f0 (v1, (IntKind.i64.wrap (v2 + 1))))))
 else some (.go v1))
@[simp] noncomputable def J_30 (v5 : Bool) : Option Bool :=
 some true
theorem U_3c (a0 : List Int) (a1 : List Int) : Le ((bif ((a0.length : Int) != (a1.length : Int)) then
 some false
 else joinK (loopF (fun f s => L_1o a0 a1 f s.1 s.2) (false, 0))
 (fun s => J_30 s))) (F_3e a0 a1) := callL_le (tt := tt) (FT := FT) (SP := SP) (j := 90) rfl (by kernel_rfl)
theorem U_1i (a0 : List Int) (a1 : Int) : Le ((bif (decide (a1 < (a0.length : Int))) then
 (ix a0 a1).bind (fun z1 => some (IntKind.i64.wrap z1))
 else (remx (IntKind.i64.wrap ((IntKind.i64.wrap (a1 * 13)) + (IntKind.i64.wrap ((a0.length : Int) * 5)))) 256).bind (fun z2 => some z2))) (F_28 a0 a1) := callL_le (tt := tt) (FT := FT) (SP := SP) (j := 91) rfl (by kernel_rfl)
@[simp] noncomputable def J_7 (v6 : Int) (f0 : ((List SNode) × Bool × (List SNode) × Int) → Option Yt17) (v14 : List SNode) (v15 : Bool) (v16 : List SNode) : Option Yt17 :=
 f0 (v14, v15, v16, (IntKind.i64.wrap (v6 + 1)))
noncomputable def L_1s (a1 : List Int) (y2 : List SNode) (f0 : ((List SNode) × Bool × (List SNode) × Int) → Option Yt17) (v3 : List SNode) (v4 : Bool) (v5 : List SNode) (v6 : Int) : Option Yt17 :=
 (bif (decide (v6 < (y2.length : Int))) then
 joinK ((ix v5 v6).bind (fun z7 => (ix v5 v6).bind (fun z8 => (bif (!z8.2.2.2.2.2.1) then
 some (.go (v3, v4, v5))
 else (ix v5 v6).bind (fun z9 => (bif (decide (z9.2.2.2.2.1 ≥ (a1.length : Int))) then
 some (.ret (.ret ([], false)))
 else (ix v5 v6).bind (fun z10 => (ix a1 z10.2.2.2.2.1).bind (fun z11 => (ix v5 v6).bind (fun z12 => (ix (v5.set (v6).toNat (z12.1, (z12.2.1, (z12.2.2.1, (z12.2.2.2.1, (z11, z12.2.2.2.2.2)))))) v6).bind (fun z13 => some (.go (v3, v4, ((v5.set (v6).toNat (z12.1, (z12.2.1, (z12.2.2.1, (z12.2.2.2.1, (z11, z12.2.2.2.2.2)))))).set (v6).toNat (z13.1, (z13.2.1, (z13.2.2.1, (z13.2.2.2.1, (z13.2.2.2.2.1, (false, z13.2.2.2.2.2.2)))))))))))))))))))
 (fun s => J_7 v6 f0 s.1 s.2.1 s.2.2)
 else some (.go (v3, v4, v5)))
@[simp] noncomputable def J_l (v17 : List SNode) (v18 : Bool) (v19 : List SNode) : Option Yt22 :=
 (F_h v19).bind (fun y20 => (bif (!y20) then
 some ([], false)
 else some (v19, true)))
theorem U_g (a0 : List SNode) (a1 : List Int) : Le ((F_h a0).bind (fun y1 => (bif (!y1) then
 some ([], false)
 else (F_6 a0).bind (fun y2 => joinK (loopF (fun f s => L_1s a1 y2 f s.1 s.2.1 s.2.2.1 s.2.2.2) ([], false, y2, 0))
 (fun s => J_l s.1 s.2.1 s.2.2))))) (F_y a0 a1) := callL_le (tt := tt) (FT := FT) (SP := SP) (j := 92) rfl (by kernel_rfl)
theorem U_e (a0 : List STable) (a1 : List SNode) (a2 : List SNode) (a3 : Int) : Le ((F_21 a0 a1 a2 a3).bind (fun y1 => some y1)) (F_1o a0 a1 a2 a3) := callL_le (tt := tt) (FT := FT) (SP := SP) (j := 93) rfl (by kernel_rfl)
@[simp] noncomputable def J_1c (v2 : Int) (v3 : Int) (f0 : Yt23 → Option Yt26) (v8 : Bool) : Option Yt26 :=
 (bif v8 then
 some (.ret v3)
 else f0 (v2, (IntKind.i64.wrap (v3 + 1))))
noncomputable def L_o (a0 : List STable) (a1 : List SNode) (a2 : List SNode) (a3 : Int) (f0 : Yt23 → Option Yt26) (v2 : Int) (v3 : Int) : Option Yt26 :=
 (bif (decide (v3 < a3)) then
 (F_11 a0 v3).bind (fun y4 => (F_g a0 y4 a1).bind (fun y5 => (F_g a0 y4 a2).bind (fun y6 => joinK ((bif (y5.2 == 0) then
 (bif (y6.2 == 0) then
 (F_z y5.1 y6.1).bind (fun y7 => some (.go (!y7)))
 else some (.go false))
 else some (.go false)))
 (fun s => J_1c v2 v3 f0 s))))
 else some (.go v2))
@[simp] noncomputable def J_1b (v9 : Int) : Option Int :=
 some (-1)
theorem U_11 (a0 : List STable) (a1 : List SNode) (a2 : List SNode) (a3 : Int) : Le ((F_4 a3 0 50).bind (fun y1 => (bif (!y1) then
 some (-1)
 else joinK (loopF (fun f s => L_o a0 a1 a2 a3 f s.1 s.2) (0, 0))
 (fun s => J_1b s)))) (F_21 a0 a1 a2 a3) := callL_le (tt := tt) (FT := FT) (SP := SP) (j := 94) rfl (by kernel_rfl)
@[simp] noncomputable def J_12 (v13 : List Int) (v15 : Int) (y16 : Yt23) (f2 : Yt36 → Option (Ex (Ex Yt15 Yt33) Yt42)) (v18 : Int) : Option (Ex (Ex Yt15 Yt33) Yt42) :=
 (apx v13 ([v18])).bind (fun z19 => f2 (z19, y16.2, (IntKind.i64.wrap (v15 + 1))))
noncomputable def L_i (z7 : STable) (f2 : Yt36 → Option (Ex (Ex Yt15 Yt33) Yt42)) (v13 : List Int) (v14 : Int) (v15 : Int) : Option (Ex (Ex Yt15 Yt33) Yt42) :=
 (bif (decide (v15 < z7.2.1)) then
 (F_17 v14).bind (fun y16 => (remx y16.1 6).bind (fun z17 => joinK ((bif (z17 == 5) then
 some (.go (-2000000))
 else some (.go z17)))
 (fun s => J_12 v13 v15 y16 f2 s)))
 else some (.go (v13, v14)))
@[simp] noncomputable def J_11 (v10 : List Yt10) (v20 : List Int) (v21 : Int) : Option (Ex Yt15 Yt33) :=
 (apx v10 ([v20])).bind (fun z22 => some (.go (z22, v21)))
@[simp] noncomputable def J_10 (v12 : Int) (f1 : (Yt11 × Int × Int) → Option Yt15) (v23 : List Yt10) (v24 : Int) : Option Yt15 :=
 f1 (v23, v24, (IntKind.i64.wrap (v12 + 1)))
noncomputable def L_1t (z7 : STable) (z9 : Int) (f1 : (Yt11 × Int × Int) → Option Yt15) (v10 : List Yt10) (v11 : Int) (v12 : Int) : Option Yt15 :=
 (bif (decide (v12 < z9)) then
 joinK (joinK (loopF (fun f s => L_i z7 f s.1 s.2.1 s.2.2) ([], v11, 0))
 (fun s => J_11 v10 s.1 s.2))
 (fun s => J_10 v12 f1 s.1 s.2)
 else some (.go (v10, v11)))
@[simp] noncomputable def J_z (v4 : List Yt11) (v25 : List Yt10) (v26 : Int) : Option (Ex (Ex Yt41 Yt41) (Yt41 × Int)) :=
 (apx v4 ([v25])).bind (fun z27 => some (.go (z27, v26)))
@[simp] noncomputable def J_y (v6 : Int) (f0 : (Yt41 × Int × Int) → Option (Ex Yt41 Yt41)) (v28 : List Yt11) (v29 : Int) : Option (Ex Yt41 Yt41) :=
 f0 (v28, v29, (IntKind.i64.wrap (v6 + 1)))
noncomputable def L_h (a0 : List STable) (f0 : (Yt41 × Int × Int) → Option (Ex Yt41 Yt41)) (v4 : List Yt11) (v5 : Int) (v6 : Int) : Option (Ex Yt41 Yt41) :=
 (bif (decide (v6 < (a0.length : Int))) then
 joinK ((ix a0 v6).bind (fun z7 => joinK ((F_17 v5).bind (fun y8 => (remx y8.1 5).bind (fun z9 => loopF (fun f s => L_1t z7 z9 f s.1 s.2.1 s.2.2) ([], y8.2, 0))))
 (fun s => J_z v4 s.1 s.2)))
 (fun s => J_y v6 f0 s.1 s.2)
 else some (.go v4))
@[simp] noncomputable def J_x (v30 : List Yt11) : Option Yt41 :=
 some v30
@[simp] noncomputable def J_w (a0 : List STable) (a1 : Int) (v3 : Bool) : Option Yt41 :=
 (bif v3 then
 some ([])
 else joinK (loopF (fun f s => L_h a0 f s.1 s.2.1 s.2.2) ([], a1, 0))
 (fun s => J_x s))
theorem U_s (a0 : List STable) (a1 : Int) : Le (joinK ((F_o a0).bind (fun y1 => (bif (!y1) then
 some (.go true)
 else (F_4 a1 0 65536).bind (fun y2 => some (.go (!y2))))))
 (fun s => J_w a0 a1 s)) (F_11 a0 a1) := callL_le (tt := tt) (FT := FT) (SP := SP) (j := 95) rfl (by kernel_rfl)
theorem U_1e (a0x0 : Int) : Le ((remx (IntKind.i64.wrap ((IntKind.i64.wrap (75 * a0x0)) + 74)) 65537).bind (fun z1 => some (z1, z1))) (F_17 a0x0) := callL_le (tt := tt) (FT := FT) (SP := SP) (j := 96) rfl (by kernel_rfl)
@[simp] noncomputable def J_k (a0 : List STable) (a1 : List Yt11) (a2 : List SNode) (v4 : Bool) : Option Yt33 :=
 (bif v4 then
 some ([], 1)
 else (F_9 a0 a1 a2 0).bind (fun y5 => (bif (!y5.2) then
 some ([], 2)
 else (F_15 y5.1).bind (fun y6 => some (y6, 0)))))
theorem U_f (a0 : List STable) (a1 : List Yt11) (a2 : List SNode) : Le (joinK ((F_1w a0 a1).bind (fun y1 => (bif (!y1) then
 some (.go true)
 else (F_p a0 a2).bind (fun y2 => (bif (!y2) then
 some (.go true)
 else (F_22 a2).bind (fun y3 => some (.go y3)))))))
 (fun s => J_k a0 a1 a2 s)) (F_g a0 a1 a2) := callL_le (tt := tt) (FT := FT) (SP := SP) (j := 97) rfl (by kernel_rfl)
@[simp] noncomputable def J_16 (v6 : Bool) (v7 : Int) (f1 : Yt31 → Option (Ex Yt18 Bool)) (v11 : Bool) : Option (Ex Yt18 Bool) :=
 (bif v11 then
 some (.ret (.ret false))
 else f1 (v6, (IntKind.i64.wrap (v7 + 1))))
noncomputable def L_k (a0 : List STable) (v4 : Int) (z5 : List Yt10) (f1 : Yt31 → Option (Ex Yt18 Bool)) (v6 : Bool) (v7 : Int) : Option (Ex Yt18 Bool) :=
 (bif (decide (v7 < (z5.length : Int))) then
 (ix z5 v7).bind (fun z8 => joinK ((ix a0 v4).bind (fun z9 => (bif ((z8.length : Int) != z9.2.1) then
 some (.go true)
 else (F_2g z8).bind (fun y10 => some (.go y10)))))
 (fun s => J_16 v6 v7 f1 s))
 else some (.go v6))
@[simp] noncomputable def J_15 (v4 : Int) (f0 : Yt31 → Option Yt18) (v12 : Bool) : Option Yt18 :=
 f0 (v12, (IntKind.i64.wrap (v4 + 1)))
noncomputable def L_j (a0 : List STable) (a1 : List Yt11) (f0 : Yt31 → Option Yt18) (v3 : Bool) (v4 : Int) : Option Yt18 :=
 (bif (decide (v4 < (a1.length : Int))) then
 joinK ((ix a1 v4).bind (fun z5 => (bif (decide ((z5.length : Int) > 40)) then
 some (.ret (.ret false))
 else loopF (fun f s => L_k a0 v4 z5 f s.1 s.2) (v3, 0))))
 (fun s => J_15 v4 f0 s)
 else some (.go v3))
@[simp] noncomputable def J_14 (v13 : Bool) : Option Bool :=
 some true
@[simp] noncomputable def J_13 (a0 : List STable) (a1 : List Yt11) (v2 : Bool) : Option Bool :=
 (bif v2 then
 some false
 else joinK (loopF (fun f s => L_j a0 a1 f s.1 s.2) (false, 0))
 (fun s => J_14 s))
theorem U_t (a0 : List STable) (a1 : List Yt11) : Le (joinK ((F_o a0).bind (fun y1 => (bif (!y1) then
 some (.go true)
 else some (.go ((a1.length : Int) != (a0.length : Int))))))
 (fun s => J_13 a0 a1 s)) (F_1w a0 a1) := callL_le (tt := tt) (FT := FT) (SP := SP) (j := 98) rfl (by kernel_rfl)
theorem U_1s (a0 : List Int) : Le ((F_2q a0).bind (fun y1 => some (decide (y1 ≥ 0)))) (F_2g a0) := callL_le (tt := tt) (FT := FT) (SP := SP) (j := 99) rfl (by kernel_rfl)
noncomputable def L_17 (a0 : List Int) (f0 : Yt23 → Option Yt26) (v1 : Int) (v2 : Int) : Option Yt26 :=
 (bif (decide (v2 < (a0.length : Int))) then
 (ix a0 v2).bind (fun z3 => (F_1x z3).bind (fun y4 => (bif y4 then
 some (.ret v2)
 else f0 (v1, (IntKind.i64.wrap (v2 + 1))))))
 else some (.go v1))
@[simp] noncomputable def J_1x (v5 : Int) : Option Int :=
 some (-1)
theorem U_23 (a0 : List Int) : Le (joinK (loopF (fun f s => L_17 a0 f s.1 s.2) (0, 0))
 (fun s => J_1x s)) (F_2q a0) := callL_le (tt := tt) (FT := FT) (SP := SP) (j := 100) rfl (by kernel_rfl)
theorem U_u (a0 : Int) : Le ((F_24 a0).bind (fun y1 => some (!y1))) (F_1x a0) := callL_le (tt := tt) (FT := FT) (SP := SP) (j := 101) rfl (by kernel_rfl)
@[simp] noncomputable def J_1k (v2 : Bool) : Option Bool :=
 some v2
theorem U_19 (a0 : Int) : Le (joinK ((F_13 a0).bind (fun y1 => (bif y1 then
 some (.go true)
 else some (.go (a0 == (-2000000))))))
 (fun s => J_1k s)) (F_24 a0) := callL_le (tt := tt) (FT := FT) (SP := SP) (j := 102) rfl (by kernel_rfl)
theorem U_13 (a0 : List SNode) : Le ((F_2e a0).bind (fun y1 => some y1)) (F_22 a0) := callL_le (tt := tt) (FT := FT) (SP := SP) (j := 103) rfl (by kernel_rfl)
theorem U_1q (a0 : List SNode) : Le ((F_2n a0).bind (fun y1 => some (decide (y1 ≥ 0)))) (F_2e a0) := callL_le (tt := tt) (FT := FT) (SP := SP) (j := 104) rfl (by kernel_rfl)
noncomputable def L_14 (a0 : List SNode) (f0 : Yt23 → Option Yt26) (v1 : Int) (v2 : Int) : Option Yt26 :=
 (bif (decide (v2 < (a0.length : Int))) then
 (ix a0 v2).bind (fun z3 => (F_23 z3).bind (fun y4 => (bif y4 then
 some (.ret v2)
 else f0 (v1, (IntKind.i64.wrap (v2 + 1))))))
 else some (.go v1))
@[simp] noncomputable def J_3x (v5 : Int) : Option Int :=
 some (-1)
theorem U_20 (a0 : List SNode) : Le (joinK (loopF (fun f s => L_14 a0 f s.1 s.2) (0, 0))
 (fun s => J_3x s)) (F_2n a0) := callL_le (tt := tt) (FT := FT) (SP := SP) (j := 105) rfl (by kernel_rfl)
theorem U_14 (a0 : SNode) : Le (some a0.2.2.2.2.2.1) (F_23 a0) := callL_le (tt := tt) (FT := FT) (SP := SP) (j := 106) rfl (by kernel_rfl)
noncomputable def L_0 (a0 : List STable) (a1 : List Yt11) (a2 : List SNode) (y1 : List Int) (f0 : (Yt11 × Bool × Yt41 × Int) → Option (Ex Yt25 (Yt11 × Bool × Yt41))) (v2 : List Yt10) (v3 : Bool) (v4 : List Yt11) (v5 : Int) : Option (Ex Yt25 (Yt11 × Bool × Yt41)) :=
 (bif (decide (v5 < (y1.length : Int))) then
 (ix y1 v5).bind (fun z6 => (F_9 a0 a1 a2 z6).bind (fun y7 => (bif (!y7.2) then
 some (.ret ([], false))
 else (apx v4 ([y7.1])).bind (fun z8 => f0 (v2, v3, z8, (IntKind.i64.wrap (v5 + 1)))))))
 else some (.go (v2, v3, v4)))
@[simp] noncomputable def J_1d (v18 : Int) (f1 : Yt33 → Option Yt25) (v23 : List Yt10) : Option Yt25 :=
 f1 (v23, (IntKind.i64.wrap (v18 + 1)))
noncomputable def L_5 (z12 : SNode) (z16 : List Yt10) (f1 : Yt33 → Option Yt25) (v17 : List Yt10) (v18 : Int) : Option Yt25 :=
 (bif (decide (v18 < (z16.length : Int))) then
 joinK ((ix z16 v18).bind (fun z19 => (ix z19 z12.2.2.1).bind (fun z20 => (F_1r (z12.1, (z12.2.1, (z12.2.2.1, (z12.2.2.2.1, (z12.2.2.2.2.1, (z12.2.2.2.2.2.1, (z12.2.2.2.2.2.2.1, ()))))))) z20).bind (fun y21 => (bif y21 then
 (apx v17 ([z19])).bind (fun z22 => some (.go z22))
 else some (.go v17))))))
 (fun s => J_1d v18 f1 s)
 else some (v17, (decide ((v17.length : Int) ≤ 200))))
noncomputable def L_p (z12 : SNode) (z28 : List Int) (f3 : Yt42 → Option (Ex (Ex Yt25 Yt11) Yt10)) (v29 : List Int) (v30 : Int) : Option (Ex (Ex Yt25 Yt11) Yt10) :=
 (bif (decide (v30 < (z12.2.2.2.2.2.2.1.length : Int))) then
 (ix z12.2.2.2.2.2.2.1 v30).bind (fun z31 => (ix z28 z31).bind (fun z32 => (apx v29 ([z32])).bind (fun z33 => f3 (z33, (IntKind.i64.wrap (v30 + 1))))))
 else some (.go v29))
@[simp] noncomputable def J_1f (v26 : List Yt10) (v34 : List Int) : Option (Ex Yt25 Yt11) :=
 (apx v26 ([v34])).bind (fun z35 => some (.go z35))
@[simp] noncomputable def J_1e (v27 : Int) (f2 : Yt33 → Option Yt25) (v36 : List Yt10) : Option Yt25 :=
 f2 (v36, (IntKind.i64.wrap (v27 + 1)))
noncomputable def L_6 (z12 : SNode) (z25 : List Yt10) (f2 : Yt33 → Option Yt25) (v26 : List Yt10) (v27 : Int) : Option Yt25 :=
 (bif (decide (v27 < (z25.length : Int))) then
 joinK ((ix z25 v27).bind (fun z28 => joinK (loopF (fun f s => L_p z12 z28 f s.1 s.2) ([], 0))
 (fun s => J_1f v26 s)))
 (fun s => J_1e v27 f2 s)
 else some (v26, (decide ((v26.length : Int) ≤ 200))))
@[simp] noncomputable def J_1i (z41 : List Int) (v44 : List Yt10) (z46 : List Int) (v50 : Bool) : Option (Ex (Ex Yt25 Yt11) Yt11) :=
 (bif v50 then
 (F_2c ([z41, z46])).bind (fun y51 => (apx v44 ([y51])).bind (fun z52 => some (.go z52)))
 else some (.go v44))
@[simp] noncomputable def J_1h (v45 : Int) (f5 : Yt33 → Option (Ex Yt25 Yt11)) (v53 : List Yt10) : Option (Ex Yt25 Yt11) :=
 f5 (v53, (IntKind.i64.wrap (v45 + 1)))
noncomputable def L_q (z12 : SNode) (z41 : List Int) (z43 : List Yt10) (f5 : Yt33 → Option (Ex Yt25 Yt11)) (v44 : List Yt10) (v45 : Int) : Option (Ex Yt25 Yt11) :=
 (bif (decide (v45 < (z43.length : Int))) then
 joinK ((ix z43 v45).bind (fun z46 => joinK ((ix z41 z12.2.2.1).bind (fun z47 => (ix z46 z12.2.2.2.2.1).bind (fun z48 => (bif (z47 == z48) then
 (ix z41 z12.2.2.1).bind (fun z49 => some (.go (z49 != (-2000000))))
 else some (.go false)))))
 (fun s => J_1i z41 v44 z46 s)))
 (fun s => J_1h v45 f5 s)
 else some (.go v44))
@[simp] noncomputable def J_1g (v40 : Int) (f4 : Yt33 → Option Yt25) (v54 : List Yt10) : Option Yt25 :=
 f4 (v54, (IntKind.i64.wrap (v40 + 1)))
noncomputable def L_7 (v11 : List Yt11) (z12 : SNode) (z38 : List Yt10) (f4 : Yt33 → Option Yt25) (v39 : List Yt10) (v40 : Int) : Option Yt25 :=
 (bif (decide (v40 < (z38.length : Int))) then
 joinK ((ix z38 v40).bind (fun z41 => (ix v11 1).bind (fun z42 => (ix v11 1).bind (fun z43 => loopF (fun f s => L_q z12 z41 z43 f s.1 s.2) (v39, 0)))))
 (fun s => J_1g v40 f4 s)
 else some (v39, (decide ((v39.length : Int) ≤ 200))))
@[simp] noncomputable def J_1j (v72 : Int) (f6 : Yt33 → Option Yt25) (v76 : List Yt10) : Option Yt25 :=
 f6 (v76, (IntKind.i64.wrap (v72 + 1)))
noncomputable def L_8 (z70 : List Yt10) (f6 : Yt33 → Option Yt25) (v71 : List Yt10) (v72 : Int) : Option Yt25 :=
 (bif (decide (v72 < (z70.length : Int))) then
 joinK ((ix z70 v72).bind (fun z73 => (F_1m v71 z73).bind (fun y74 => (bif (y74 == 0) then
 (apx v71 ([z73])).bind (fun z75 => some (.go z75))
 else some (.go v71)))))
 (fun s => J_1j v72 f6 s)
 else some (v71, (decide ((v71.length : Int) ≤ 200))))
@[simp] noncomputable def J_2 (a0 : List STable) (a1 : List Yt11) (a2 : List SNode) (a3 : Int) (v9 : List Yt10) (v10 : Bool) (v11 : List Yt11) : Option Yt25 :=
 (ix a2 a3).bind (fun z12 => (bif (z12.1 == 0) then
 (F_18 a0 z12.2.1).bind (fun y13 => (ix a1 y13).bind (fun z14 => some (z14, (decide ((z14.length : Int) ≤ 200)))))
 else (bif (z12.1 == 1) then
 (ix v11 0).bind (fun z15 => (ix v11 0).bind (fun z16 => loopF (fun f s => L_5 z12 z16 f s.1 s.2) ([], 0)))
 else (bif (z12.1 == 2) then
 (ix v11 0).bind (fun z24 => (ix v11 0).bind (fun z25 => loopF (fun f s => L_6 z12 z25 f s.1 s.2) ([], 0)))
 else (bif (z12.1 == 3) then
 (ix v11 0).bind (fun z37 => (ix v11 0).bind (fun z38 => loopF (fun f s => L_7 v11 z12 z38 f s.1 s.2) ([], 0)))
 else (bif (z12.1 == 4) then
 (ix v11 0).bind (fun z55 => (ix v11 0).bind (fun z56 => (ix v11 1).bind (fun z57 => (ix v11 1).bind (fun z58 => (F_2b ([z56, z58])).bind (fun y59 => some (y59, (decide ((y59.length : Int) ≤ 200))))))))
 else (bif (z12.1 == 5) then
 (ix v11 0).bind (fun z60 => (ix v11 0).bind (fun z61 => (F_2a z61).bind (fun y62 => (F_2s y62 z12.1 z12.2.1 z12.2.2.1 z12.2.2.2.1 z12.2.2.2.2.1 z12.2.2.2.2.2.1 z12.2.2.2.2.2.2.1).bind (fun y63 => some (y63.1, (decide ((y63.1.length : Int) ≤ 200)))))))
 else (bif (z12.1 == 6) then
 (ix v11 0).bind (fun z64 => (ix v11 0).bind (fun z65 => (ix v11 0).bind (fun z66 => (ix v11 0).bind (fun z67 => (slx z65 0 (mmx false z12.2.2.2.2.1 (z67.length : Int))).bind (fun z68 => some (z68, (decide ((z68.length : Int) ≤ 200))))))))
 else (bif (z12.1 == 7) then
 (ix v11 0).bind (fun z69 => (ix v11 0).bind (fun z70 => loopF (fun f s => L_8 z70 f s.1 s.2) ([], 0)))
 else some ([], (decide ((([] : List Yt10).length : Int) ≤ 200))))))))))))
theorem U_0 (a0 : List STable) (a1 : List Yt11) (a2 : List SNode) (a3 : Int) : Le (joinK ((F_q a2 a3).bind (fun y1 => loopF (fun f s => L_0 a0 a1 a2 y1 f s.1 s.2.1 s.2.2.1 s.2.2.2) ([], false, [], 0)))
 (fun s => J_2 a0 a1 a2 a3 s.1 s.2.1 s.2.2)) (F_9 a0 a1 a2 a3) := callL_le (tt := tt) (FT := FT) (SP := SP) (j := 107) rfl (by kernel_rfl)
@[simp] noncomputable def J_s (v1 : Bool) : Option Bool :=
 some v1
@[simp] noncomputable def J_t (v2 : Bool) : Option Bool :=
 some v2
theorem U_j (a0 : SNode) (a1 : Int) : Le ((bif (a0.2.2.2.1 == 3) then
 some (a1 == (-2000000))
 else (bif (a0.2.2.2.1 == 0) then
 some (a1 == a0.2.2.2.2.1)
 else (bif (a0.2.2.2.1 == 1) then
 joinK ((bif (a1 != (-2000000)) then
 some (.go (decide (a1 < a0.2.2.2.2.1)))
 else some (.go false)))
 (fun s => J_s s)
 else joinK ((bif (a1 != (-2000000)) then
 some (.go (decide (a1 > a0.2.2.2.2.1)))
 else some (.go false)))
 (fun s => J_t s))))) (F_1r a0 a1) := callL_le (tt := tt) (FT := FT) (SP := SP) (j := 108) rfl (by kernel_rfl)
@[simp] noncomputable def J_1u (v2 : Int) (f0 : Yt23 → Option (Ex Yt10 Int)) (v4 : Int) : Option (Ex Yt10 Int) :=
 f0 (v4, (IntKind.i64.wrap (v2 + 1)))
noncomputable def L_y (a0 : List Yt10) (f0 : Yt23 → Option (Ex Yt10 Int)) (v1 : Int) (v2 : Int) : Option (Ex Yt10 Int) :=
 (bif (decide (v2 < (a0.length : Int))) then
 joinK ((ix a0 v2).bind (fun z3 => (bif (decide ((IntKind.i64.wrap (v1 + (z3.length : Int))) < 0)) then
 none
 else some (.go (IntKind.i64.wrap (v1 + (z3.length : Int)))))))
 (fun s => J_1u v2 f0 s)
 else some (.go v1))
noncomputable def L_z (a0 : List Yt10) (f1 : Yt42 → Option Yt34) (v7 : List Int) (v8 : Int) : Option Yt34 :=
 (bif (decide (v8 < (a0.length : Int))) then
 (ix a0 v8).bind (fun z9 => (apx v7 z9).bind (fun z10 => f1 (z10, (IntKind.i64.wrap (v8 + 1)))))
 else some (.go v7))
@[simp] noncomputable def J_3u (v11 : List Int) : Option Yt10 :=
 some v11
@[simp] noncomputable def J_1t (a0 : List Yt10) (v5 : Int) : Option Yt10 :=
 (F_2l v5).bind (fun y6 => joinK (loopF (fun f s => L_z a0 f s.1 s.2) (y6, 0))
 (fun s => J_3u s))
theorem U_1o (a0 : List Yt10) : Le (joinK (loopF (fun f s => L_y a0 f s.1 s.2) (0, 0))
 (fun s => J_1t a0 s)) (F_2c a0) := callL_le (tt := tt) (FT := FT) (SP := SP) (j := 109) rfl (by kernel_rfl)
theorem U_1y (a1 : Int) : Le ((bif (decide (a1 < 0)) then
 none
 else (bif (decide ((IntKind.i64.wrap (a1 - (IntKind.i64.wrap (0 - 0)))) > 0)) then
 (mkx (IntKind.i64.wrap (a1 - (IntKind.i64.wrap (0 - 0)))) (0 : Int)).bind (fun z1 => (tkx z1 0).bind (fun z2 => some z2))
 else some ([])))) (F_2l a1) := callL_le (tt := tt) (FT := FT) (SP := SP) (j := 110) rfl (by kernel_rfl)
@[simp] noncomputable def J_1q (v2 : Int) (f0 : Yt23 → Option (Ex Yt11 Int)) (v4 : Int) : Option (Ex Yt11 Int) :=
 f0 (v4, (IntKind.i64.wrap (v2 + 1)))
noncomputable def L_u (a0 : List Yt11) (f0 : Yt23 → Option (Ex Yt11 Int)) (v1 : Int) (v2 : Int) : Option (Ex Yt11 Int) :=
 (bif (decide (v2 < (a0.length : Int))) then
 joinK ((ix a0 v2).bind (fun z3 => (bif (decide ((IntKind.i64.wrap (v1 + (z3.length : Int))) < 0)) then
 none
 else some (.go (IntKind.i64.wrap (v1 + (z3.length : Int)))))))
 (fun s => J_1q v2 f0 s)
 else some (.go v1))
noncomputable def L_v (a0 : List Yt11) (f1 : Yt33 → Option (Ex Yt11 Yt11)) (v7 : List Yt10) (v8 : Int) : Option (Ex Yt11 Yt11) :=
 (bif (decide (v8 < (a0.length : Int))) then
 (ix a0 v8).bind (fun z9 => (apx v7 z9).bind (fun z10 => f1 (z10, (IntKind.i64.wrap (v8 + 1)))))
 else some (.go v7))
@[simp] noncomputable def J_3s (v11 : List Yt10) : Option Yt11 :=
 some v11
@[simp] noncomputable def J_1p (a0 : List Yt11) (v5 : Int) : Option Yt11 :=
 (F_2j v5).bind (fun y6 => joinK (loopF (fun f s => L_v a0 f s.1 s.2) (y6, 0))
 (fun s => J_3s s))
theorem U_1m (a0 : List Yt11) : Le (joinK (loopF (fun f s => L_u a0 f s.1 s.2) (0, 0))
 (fun s => J_1p a0 s)) (F_2b a0) := callL_le (tt := tt) (FT := FT) (SP := SP) (j := 111) rfl (by kernel_rfl)
theorem U_1w (a1 : Int) : Le ((bif (decide (a1 < 0)) then
 none
 else (bif (decide ((IntKind.i64.wrap (a1 - (IntKind.i64.wrap (0 - 0)))) > 0)) then
 (mkx (IntKind.i64.wrap (a1 - (IntKind.i64.wrap (0 - 0)))) ([] : List Int)).bind (fun z1 => (tkx z1 0).bind (fun z2 => some z2))
 else some ([])))) (F_2j a1) := callL_le (tt := tt) (FT := FT) (SP := SP) (j := 112) rfl (by kernel_rfl)
theorem U_1k (a0 : List Yt10) : Le ((nilx a0.isEmpty
 (some ([]))
 ((apx ([]) a0).bind (fun z1 => some z1)))) (F_2a a0) := callL_le (tt := tt) (FT := FT) (SP := SP) (j := 113) rfl (by kernel_rfl)
theorem U_26 (a0 : List Yt10) (a1x0x0 : Int) (a1x0x1 : ByteArray) (a1x0x2 : Int) (a1x0x3 : Int) (a1x0x4 : Int) (a1x0x5 : Bool) (a1x0x6 : List Int) : Le ((F_2u a0 (a0.length : Int) a1x0x0 a1x0x1 a1x0x2 a1x0x3 a1x0x4 a1x0x5 a1x0x6).bind (fun y1 => some (y1.1, y1.2.1, y1.2.2.1, y1.2.2.2.1, y1.2.2.2.2.1, y1.2.2.2.2.2.1, y1.2.2.2.2.2.2.1, y1.2.2.2.2.2.2.2))) (F_2s a0 a1x0x0 a1x0x1 a1x0x2 a1x0x3 a1x0x4 a1x0x5 a1x0x6) := callL_le (tt := tt) (FT := FT) (SP := SP) (j := 114) rfl (by kernel_rfl)
noncomputable def L_1y (a1 : Int) (f0 : Yt35 → Option (Ex Yt9 Yt13)) (v1 : Int) (v2 : Int) (v3 : List Yt10) (v4 : Int) (v5 : ByteArray) (v6 : Int) (v7 : Int) (v8 : Int) (v9 : Bool) (v10 : List Int) : Option (Ex Yt9 Yt13) :=
 (bif (decide (v2 ≤ a1)) then
 (F_1c v3 v1 v2 v4 v5 v6 v7 v8 v9 v10).bind (fun y11 => f0 (v2, (IntKind.i64.wrap (v2 + 20)), y11.1, y11.2.1, y11.2.2.1, y11.2.2.2.1, y11.2.2.2.2.1, y11.2.2.2.2.2.1, y11.2.2.2.2.2.2.1, y11.2.2.2.2.2.2.2))
 else some (.go (v1, v3, v4, v5, v6, v7, v8, v9, v10)))
noncomputable def L_20 (a1 : Int) (v22 : Int) (f2 : Yt35 → Option (Ex Yt9 Yt13)) (v31 : Int) (v32 : Int) (v33 : List Yt10) (v34 : Int) (v35 : ByteArray) (v36 : Int) (v37 : Int) (v38 : Int) (v39 : Bool) (v40 : List Int) : Option (Ex Yt9 Yt13) :=
 (bif (decide (v32 ≤ a1)) then
 (F_j v33 v31 (IntKind.i64.wrap (v31 + v22)) v32 v34 v35 v36 v37 v38 v39 v40).bind (fun y41 => f2 (v32, (IntKind.i64.wrap (v32 + (IntKind.i64.wrap (2 * v22)))), y41.1, y41.2.1, y41.2.2.1, y41.2.2.2.1, y41.2.2.2.2.1, y41.2.2.2.2.2.1, y41.2.2.2.2.2.2.1, y41.2.2.2.2.2.2.2))
 else some (.go (v31, v33, v34, v35, v36, v37, v38, v39, v40)))
@[simp] noncomputable def J_b (v22 : Int) (f1 : Yt13 → Option Yt9) (v52 : List Yt10) (v53 : Int) (v54 : ByteArray) (v55 : Int) (v56 : Int) (v57 : Int) (v58 : Bool) (v59 : List Int) : Option Yt9 :=
 f1 ((IntKind.i64.wrap (v22 * 2)), v52, v53, v54, v55, v56, v57, v58, v59)
@[simp] noncomputable def J_21 (a1 : Int) (v22 : Int) (f1 : Yt13 → Option Yt9) (v42 : Int) (v43 : List Yt10) (v44 : Int) (v45 : ByteArray) (v46 : Int) (v47 : Int) (v48 : Int) (v49 : Bool) (v50 : List Int) : Option Yt9 :=
 joinK ((bif (decide ((IntKind.i64.wrap (v42 + v22)) < a1)) then
 (F_j v43 v42 (IntKind.i64.wrap (v42 + v22)) a1 v44 v45 v46 v47 v48 v49 v50).bind (fun y51 => some (.go (y51.1, y51.2.1, y51.2.2.1, y51.2.2.2.1, y51.2.2.2.2.1, y51.2.2.2.2.2.1, y51.2.2.2.2.2.2.1, y51.2.2.2.2.2.2.2)))
 else some (.go (v43, v44, v45, v46, v47, v48, v49, v50))))
 (fun s => J_b v22 f1 s.1 s.2.1 s.2.2.1 s.2.2.2.1 s.2.2.2.2.1 s.2.2.2.2.2.1 s.2.2.2.2.2.2.1 s.2.2.2.2.2.2.2)
noncomputable def L_1z (a1 : Int) (f1 : Yt13 → Option Yt9) (v22 : Int) (v23 : List Yt10) (v24 : Int) (v25 : ByteArray) (v26 : Int) (v27 : Int) (v28 : Int) (v29 : Bool) (v30 : List Int) : Option Yt9 :=
 (bif (decide (v22 < a1)) then
 joinK (loopF (fun f s => L_20 a1 v22 f s.1 s.2.1 s.2.2.1 s.2.2.2.1 s.2.2.2.2.1 s.2.2.2.2.2.1 s.2.2.2.2.2.2.1 s.2.2.2.2.2.2.2.1 s.2.2.2.2.2.2.2.2.1 s.2.2.2.2.2.2.2.2.2) (0, (IntKind.i64.wrap (2 * v22)), v23, v24, v25, v26, v27, v28, v29, v30))
 (fun s => J_21 a1 v22 f1 s.1 s.2.1 s.2.2.1 s.2.2.2.1 s.2.2.2.2.1 s.2.2.2.2.2.1 s.2.2.2.2.2.2.1 s.2.2.2.2.2.2.2.1 s.2.2.2.2.2.2.2.2)
 else some (v23, v24, v25, v26, v27, v28, v29, v30))
@[simp] noncomputable def J_20 (a1 : Int) (v12 : Int) (v13 : List Yt10) (v14 : Int) (v15 : ByteArray) (v16 : Int) (v17 : Int) (v18 : Int) (v19 : Bool) (v20 : List Int) : Option Yt9 :=
 (F_1c v13 v12 a1 v14 v15 v16 v17 v18 v19 v20).bind (fun y21 => loopF (fun f s => L_1z a1 f s.1 s.2.1 s.2.2.1 s.2.2.2.1 s.2.2.2.2.1 s.2.2.2.2.2.1 s.2.2.2.2.2.2.1 s.2.2.2.2.2.2.2.1 s.2.2.2.2.2.2.2.2) (20, y21.1, y21.2.1, y21.2.2.1, y21.2.2.2.1, y21.2.2.2.2.1, y21.2.2.2.2.2.1, y21.2.2.2.2.2.2.1, y21.2.2.2.2.2.2.2))
theorem U_29 (a0 : List Yt10) (a1 : Int) (a2x0x0 : Int) (a2x0x1 : ByteArray) (a2x0x2 : Int) (a2x0x3 : Int) (a2x0x4 : Int) (a2x0x5 : Bool) (a2x0x6 : List Int) : Le (joinK (loopF (fun f s => L_1y a1 f s.1 s.2.1 s.2.2.1 s.2.2.2.1 s.2.2.2.2.1 s.2.2.2.2.2.1 s.2.2.2.2.2.2.1 s.2.2.2.2.2.2.2.1 s.2.2.2.2.2.2.2.2.1 s.2.2.2.2.2.2.2.2.2) (0, 20, a0, a2x0x0, a2x0x1, a2x0x2, a2x0x3, a2x0x4, a2x0x5, a2x0x6))
 (fun s => J_20 a1 s.1 s.2.1 s.2.2.1 s.2.2.2.1 s.2.2.2.2.1 s.2.2.2.2.2.1 s.2.2.2.2.2.2.1 s.2.2.2.2.2.2.2.1 s.2.2.2.2.2.2.2.2)) (F_2u a0 a1 a2x0x0 a2x0x1 a2x0x2 a2x0x3 a2x0x4 a2x0x5 a2x0x6) := callL_le (tt := tt) (FT := FT) (SP := SP) (j := 115) rfl (by kernel_rfl)
@[simp] noncomputable def J_9 (v10 : Int) (v11 : List Yt10) (f1 : Yt13 → Option Yt39) (v24 : Bool) (v25 : Int) (v26 : ByteArray) (v27 : Int) (v28 : Int) (v29 : Int) (v30 : Bool) (v31 : List Int) : Option Yt39 :=
 (bif v24 then
 (inx v11.length (IntKind.i64.wrap (v10 - 1))).bind (fun z32 => (ix v11 (IntKind.i64.wrap (v10 - 1))).bind (fun z33 => (inx v11.length v10).bind (fun z34 => (ix v11 v10).bind (fun z35 => (inx v11.length v10).bind (fun z36 => (stx v11 v10 z33).bind (fun z37 => (inx v11.length (IntKind.i64.wrap (v10 - 1))).bind (fun z38 => (stx z37 (IntKind.i64.wrap (v10 - 1)) z35).bind (fun z39 => f1 ((IntKind.i64.wrap (v10 - 1)), z39, v25, v26, v27, v28, v29, v30, v31)))))))))
 else some (.go (v11, v25, v26, v27, v28, v29, v30, v31)))
noncomputable def L_1w (a1 : Int) (f1 : Yt13 → Option Yt39) (v10 : Int) (v11 : List Yt10) (v12 : Int) (v13 : ByteArray) (v14 : Int) (v15 : Int) (v16 : Int) (v17 : Bool) (v18 : List Int) : Option Yt39 :=
 joinK ((bif (decide (v10 > a1)) then
 (ix v11 v10).bind (fun z19 => (ix v11 v10).bind (fun z20 => (ix v11 (IntKind.i64.wrap (v10 - 1))).bind (fun z21 => (ix v11 (IntKind.i64.wrap (v10 - 1))).bind (fun z22 => (F_i z20 z22 v12 v13 v14 v15 v16 v17 v18).bind (fun y23 => some (.go ((decide (y23.1 < 0)), y23.2.1, y23.2.2.1, y23.2.2.2.1, y23.2.2.2.2.1, y23.2.2.2.2.2.1, y23.2.2.2.2.2.2.1, y23.2.2.2.2.2.2.2)))))))
 else some (.go (false, v12, v13, v14, v15, v16, v17, v18))))
 (fun s => J_9 v10 v11 f1 s.1 s.2.1 s.2.2.1 s.2.2.2.1 s.2.2.2.2.1 s.2.2.2.2.2.1 s.2.2.2.2.2.2.1 s.2.2.2.2.2.2.2)
@[simp] noncomputable def J_1z (v1 : Int) (f0 : Yt13 → Option Yt9) (v40 : List Yt10) (v41 : Int) (v42 : ByteArray) (v43 : Int) (v44 : Int) (v45 : Int) (v46 : Bool) (v47 : List Int) : Option Yt9 :=
 f0 ((IntKind.i64.wrap (v1 + 1)), v40, v41, v42, v43, v44, v45, v46, v47)
noncomputable def L_1v (a1 : Int) (a2 : Int) (f0 : Yt13 → Option Yt9) (v1 : Int) (v2 : List Yt10) (v3 : Int) (v4 : ByteArray) (v5 : Int) (v6 : Int) (v7 : Int) (v8 : Bool) (v9 : List Int) : Option Yt9 :=
 (bif (decide (v1 < a2)) then
 joinK (loopF (fun f s => L_1w a1 f s.1 s.2.1 s.2.2.1 s.2.2.2.1 s.2.2.2.2.1 s.2.2.2.2.2.1 s.2.2.2.2.2.2.1 s.2.2.2.2.2.2.2.1 s.2.2.2.2.2.2.2.2) (v1, v2, v3, v4, v5, v6, v7, v8, v9))
 (fun s => J_1z v1 f0 s.1 s.2.1 s.2.2.1 s.2.2.2.1 s.2.2.2.2.1 s.2.2.2.2.2.1 s.2.2.2.2.2.2.1 s.2.2.2.2.2.2.2)
 else some (v2, v3, v4, v5, v6, v7, v8, v9))
theorem U_27 (a0 : List Yt10) (a1 : Int) (a2 : Int) (a3x0x0 : Int) (a3x0x1 : ByteArray) (a3x0x2 : Int) (a3x0x3 : Int) (a3x0x4 : Int) (a3x0x5 : Bool) (a3x0x6 : List Int) : Le (loopF (fun f s => L_1v a1 a2 f s.1 s.2.1 s.2.2.1 s.2.2.2.1 s.2.2.2.2.1 s.2.2.2.2.2.1 s.2.2.2.2.2.2.1 s.2.2.2.2.2.2.2.1 s.2.2.2.2.2.2.2.2) ((IntKind.i64.wrap (a1 + 1)), a0, a3x0x0, a3x0x1, a3x0x2, a3x0x3, a3x0x4, a3x0x5, a3x0x6)) (F_1c a0 a1 a2 a3x0x0 a3x0x1 a3x0x2 a3x0x3 a3x0x4 a3x0x5 a3x0x6) := callL_le (tt := tt) (FT := FT) (SP := SP) (j := 116) rfl (by kernel_rfl)
theorem U_12 (a0 : List Int) (a1 : List Int) (c0x0 : Int) (c0x1 : ByteArray) (c0x2 : Int) (c0x3 : Int) (c0x4 : Int) (c0x5 : Bool) (c0x6 : List Int) : Le ((ix a0 c0x2).bind (fun z1 => (ix a1 c0x2).bind (fun z2 => (F_v z1 z2).bind (fun y3 => some (y3, c0x0, c0x1, c0x2, c0x3, c0x4, c0x5, c0x6))))) (F_i a0 a1 c0x0 c0x1 c0x2 c0x3 c0x4 c0x5 c0x6) := callL_le (tt := tt) (FT := FT) (SP := SP) (j := 117) rfl (by kernel_rfl)
theorem U_7 (a0 : Int) (a1 : Int) : Le ((F_w a0).bind (fun y1 => (F_w a1).bind (fun y2 => (bif y1 then
 (bif y2 then
 some 0
 else some (-1))
 else (bif y2 then
 some 1
 else (bif (decide (a0 < a1)) then
 some (-1)
 else (bif (decide (a0 > a1)) then
 some 1
 else some 0))))))) (F_v a0 a1) := callL_le (tt := tt) (FT := FT) (SP := SP) (j := 118) rfl (by kernel_rfl)
theorem U_8 (a0 : Int) : Le (some (a0 != a0)) (F_w a0) := callL_le (tt := tt) (FT := FT) (SP := SP) (j := 119) rfl (by kernel_rfl)
noncomputable def L_9 (a0 : List Yt10) (a1 : Int) (f0 : Yt37 → Option (Ex Yt39 Yt20)) (v1 : Int) (v2 : Int) (v3 : Int) (v4 : ByteArray) (v5 : Int) (v6 : Int) (v7 : Int) (v8 : Bool) (v9 : List Int) : Option (Ex Yt39 Yt20) :=
 (bif (decide (v1 < v2)) then
 (shrV .u64 (IntKind.u64.wrap (IntKind.i64.wrap (v1 + v2))) 1).bind (fun z10 => (ix a0 (IntKind.i64.wrap z10)).bind (fun z11 => (ix a0 (IntKind.i64.wrap z10)).bind (fun z12 => (ix a0 a1).bind (fun z13 => (ix a0 a1).bind (fun z14 => (F_i z12 z14 v3 v4 v5 v6 v7 v8 v9).bind (fun y15 => (bif (decide (y15.1 < 0)) then
 f0 ((IntKind.i64.wrap ((IntKind.i64.wrap z10) + 1)), v2, y15.2.1, y15.2.2.1, y15.2.2.2.1, y15.2.2.2.2.1, y15.2.2.2.2.2.1, y15.2.2.2.2.2.2.1, y15.2.2.2.2.2.2.2)
 else f0 (v1, (IntKind.i64.wrap z10), y15.2.1, y15.2.2.1, y15.2.2.2.1, y15.2.2.2.2.1, y15.2.2.2.2.2.1, y15.2.2.2.2.2.2.1, y15.2.2.2.2.2.2.2))))))))
 else some (.go (v1, v3, v4, v5, v6, v7, v8, v9)))
noncomputable def L_21 (v16 : Int) (f1 : (Int × Yt11) → Option (Ex Yt39 Yt11)) (v24 : Int) (v25 : List Yt10) : Option (Ex Yt39 Yt11) :=
 (bif (decide (v24 < (IntKind.i64.wrap (v16 - 1)))) then
 (inx v25.length (IntKind.i64.wrap (v24 + 1))).bind (fun z26 => (ix v25 (IntKind.i64.wrap (v24 + 1))).bind (fun z27 => (inx v25.length v24).bind (fun z28 => (ix v25 v24).bind (fun z29 => (inx v25.length v24).bind (fun z30 => (stx v25 v24 z27).bind (fun z31 => (inx v25.length (IntKind.i64.wrap (v24 + 1))).bind (fun z32 => (stx z31 (IntKind.i64.wrap (v24 + 1)) z29).bind (fun z33 => f1 ((IntKind.i64.wrap (v24 + 1)), z33)))))))))
 else some (.go v25))
@[simp] noncomputable def J_26 (v17 : Int) (v18 : ByteArray) (v19 : Int) (v20 : Int) (v21 : Int) (v22 : Bool) (v23 : List Int) (v34 : List Yt10) : Option Yt39 :=
 some (.ret (v34, v17, v18, v19, v20, v21, v22, v23))
@[simp] noncomputable def J_23 (a0 : List Yt10) (a1 : Int) (v16 : Int) (v17 : Int) (v18 : ByteArray) (v19 : Int) (v20 : Int) (v21 : Int) (v22 : Bool) (v23 : List Int) : Option Yt39 :=
 joinK (loopF (fun f s => L_21 v16 f s.1 s.2) (a1, a0))
 (fun s => J_26 v17 v18 v19 v20 v21 v22 v23 s)
noncomputable def L_a (a2 : Int) (v35 : List Yt10) (f2 : Yt37 → Option (Ex Yt39 Yt20)) (v43 : Int) (v44 : Int) (v45 : Int) (v46 : ByteArray) (v47 : Int) (v48 : Int) (v49 : Int) (v50 : Bool) (v51 : List Int) : Option (Ex Yt39 Yt20) :=
 (bif (decide (v43 < v44)) then
 (shrV .u64 (IntKind.u64.wrap (IntKind.i64.wrap (v43 + v44))) 1).bind (fun z52 => (ix v35 a2).bind (fun z53 => (ix v35 a2).bind (fun z54 => (ix v35 (IntKind.i64.wrap z52)).bind (fun z55 => (ix v35 (IntKind.i64.wrap z52)).bind (fun z56 => (F_i z54 z56 v45 v46 v47 v48 v49 v50 v51).bind (fun y57 => (bif (!(decide (y57.1 < 0))) then
 f2 ((IntKind.i64.wrap ((IntKind.i64.wrap z52) + 1)), v44, y57.2.1, y57.2.2.1, y57.2.2.2.1, y57.2.2.2.2.1, y57.2.2.2.2.2.1, y57.2.2.2.2.2.2.1, y57.2.2.2.2.2.2.2)
 else f2 (v43, (IntKind.i64.wrap z52), y57.2.1, y57.2.2.1, y57.2.2.2.1, y57.2.2.2.2.1, y57.2.2.2.2.2.1, y57.2.2.2.2.2.2.1, y57.2.2.2.2.2.2.2))))))))
 else some (.go (v43, v45, v46, v47, v48, v49, v50, v51)))
noncomputable def L_22 (v58 : Int) (f3 : (Int × Yt11) → Option (Ex Yt39 Yt11)) (v66 : Int) (v67 : List Yt10) : Option (Ex Yt39 Yt11) :=
 (bif (decide (v66 > v58)) then
 (inx v67.length (IntKind.i64.wrap (v66 - 1))).bind (fun z68 => (ix v67 (IntKind.i64.wrap (v66 - 1))).bind (fun z69 => (inx v67.length v66).bind (fun z70 => (ix v67 v66).bind (fun z71 => (inx v67.length v66).bind (fun z72 => (stx v67 v66 z69).bind (fun z73 => (inx v67.length (IntKind.i64.wrap (v66 - 1))).bind (fun z74 => (stx z73 (IntKind.i64.wrap (v66 - 1)) z71).bind (fun z75 => f3 ((IntKind.i64.wrap (v66 - 1)), z75)))))))))
 else some (.go v67))
@[simp] noncomputable def J_29 (v59 : Int) (v60 : ByteArray) (v61 : Int) (v62 : Int) (v63 : Int) (v64 : Bool) (v65 : List Int) (v76 : List Yt10) : Option Yt39 :=
 some (.ret (v76, v59, v60, v61, v62, v63, v64, v65))
@[simp] noncomputable def J_28 (a2 : Int) (v35 : List Yt10) (v58 : Int) (v59 : Int) (v60 : ByteArray) (v61 : Int) (v62 : Int) (v63 : Int) (v64 : Bool) (v65 : List Int) : Option Yt39 :=
 joinK (loopF (fun f s => L_22 v58 f s.1 s.2) (a2, v35))
 (fun s => J_29 v59 v60 v61 v62 v63 v64 v65 s)
noncomputable def L_b (a2 : Int) (v77 : List Yt10) (z85 : Int) (f4 : Yt37 → Option (Ex Yt9 Yt20)) (v88 : Int) (v89 : Int) (v90 : Int) (v91 : ByteArray) (v92 : Int) (v93 : Int) (v94 : Int) (v95 : Bool) (v96 : List Int) : Option (Ex Yt9 Yt20) :=
 (bif (decide (v88 < v89)) then
 (shrV .u64 (IntKind.u64.wrap (IntKind.i64.wrap (v88 + v89))) 1).bind (fun z97 => (ix v77 (IntKind.i64.wrap ((IntKind.i64.wrap ((IntKind.i64.wrap ((IntKind.i64.wrap z85) + a2)) - 1)) - (IntKind.i64.wrap z97)))).bind (fun z98 => (ix v77 (IntKind.i64.wrap ((IntKind.i64.wrap ((IntKind.i64.wrap ((IntKind.i64.wrap z85) + a2)) - 1)) - (IntKind.i64.wrap z97)))).bind (fun z99 => (ix v77 (IntKind.i64.wrap z97)).bind (fun z100 => (ix v77 (IntKind.i64.wrap z97)).bind (fun z101 => (F_i z99 z101 v90 v91 v92 v93 v94 v95 v96).bind (fun y102 => (bif (!(decide (y102.1 < 0))) then
 f4 ((IntKind.i64.wrap ((IntKind.i64.wrap z97) + 1)), v89, y102.2.1, y102.2.2.1, y102.2.2.2.1, y102.2.2.2.2.1, y102.2.2.2.2.2.1, y102.2.2.2.2.2.2.1, y102.2.2.2.2.2.2.2)
 else f4 (v88, (IntKind.i64.wrap z97), y102.2.1, y102.2.2.1, y102.2.2.2.1, y102.2.2.2.2.1, y102.2.2.2.2.2.1, y102.2.2.2.2.2.2.1, y102.2.2.2.2.2.2.2))))))))
 else some (.go (v88, v90, v91, v92, v93, v94, v95, v96)))
@[simp] noncomputable def J_d (a2 : Int) (v77 : List Yt10) (z85 : Int) (v103 : Int) (v104 : Int) (v105 : ByteArray) (v106 : Int) (v107 : Int) (v108 : Int) (v109 : Bool) (v110 : List Int) (v111 : Bool) : Option Yt39 :=
 (bif v111 then
 (F_2t v77 v103 a2 (IntKind.i64.wrap ((IntKind.i64.wrap ((IntKind.i64.wrap z85) + a2)) - v103)) v104 v105 v106 v107 v108 v109 v110).bind (fun y112 => some (.go (y112.1, y112.2.1, y112.2.2.1, y112.2.2.2.1, y112.2.2.2.2.1, y112.2.2.2.2.2.1, y112.2.2.2.2.2.2.1, y112.2.2.2.2.2.2.2)))
 else some (.go (v77, v104, v105, v106, v107, v108, v109, v110)))
@[simp] noncomputable def J_c (a1 : Int) (z85 : Int) (v103 : Int) (v113 : List Yt10) (v114 : Int) (v115 : ByteArray) (v116 : Int) (v117 : Int) (v118 : Int) (v119 : Bool) (v120 : List Int) (v121 : Bool) : Option Yt39 :=
 (bif v121 then
 (F_j v113 a1 v103 (IntKind.i64.wrap z85) v114 v115 v116 v117 v118 v119 v120).bind (fun y122 => some (.go (y122.1, y122.2.1, y122.2.2.1, y122.2.2.2.1, y122.2.2.2.2.1, y122.2.2.2.2.2.1, y122.2.2.2.2.2.2.1, y122.2.2.2.2.2.2.2)))
 else some (.go (v113, v114, v115, v116, v117, v118, v119, v120)))
@[simp] noncomputable def J_25 (a2 : Int) (a3 : Int) (z85 : Int) (v103 : Int) (v123 : List Yt10) (v124 : Int) (v125 : ByteArray) (v126 : Int) (v127 : Int) (v128 : Int) (v129 : Bool) (v130 : List Int) (v131 : Bool) : Option Yt9 :=
 (bif v131 then
 (F_j v123 (IntKind.i64.wrap z85) (IntKind.i64.wrap ((IntKind.i64.wrap ((IntKind.i64.wrap z85) + a2)) - v103)) a3 v124 v125 v126 v127 v128 v129 v130).bind (fun y132 => some (y132.1, y132.2.1, y132.2.2.1, y132.2.2.2.1, y132.2.2.2.2.1, y132.2.2.2.2.2.1, y132.2.2.2.2.2.2.1, y132.2.2.2.2.2.2.2))
 else some (v123, v124, v125, v126, v127, v128, v129, v130))
@[simp] noncomputable def J_24 (a2 : Int) (a3 : Int) (z85 : Int) (v103 : Int) (v123 : List Yt10) (v124 : Int) (v125 : ByteArray) (v126 : Int) (v127 : Int) (v128 : Int) (v129 : Bool) (v130 : List Int) : Option Yt9 :=
 joinK ((bif (decide ((IntKind.i64.wrap z85) < (IntKind.i64.wrap ((IntKind.i64.wrap ((IntKind.i64.wrap z85) + a2)) - v103)))) then
 some (.go (decide ((IntKind.i64.wrap ((IntKind.i64.wrap ((IntKind.i64.wrap z85) + a2)) - v103)) < a3)))
 else some (.go false)))
 (fun s => J_25 a2 a3 z85 v103 v123 v124 v125 v126 v127 v128 v129 v130 s)
@[simp] noncomputable def J_2c (a1 : Int) (a2 : Int) (a3 : Int) (z85 : Int) (v103 : Int) (v113 : List Yt10) (v114 : Int) (v115 : ByteArray) (v116 : Int) (v117 : Int) (v118 : Int) (v119 : Bool) (v120 : List Int) : Option Yt9 :=
 joinK (joinK ((bif (decide (a1 < v103)) then
 some (.go (decide (v103 < (IntKind.i64.wrap z85))))
 else some (.go false)))
 (fun s => J_c a1 z85 v103 v113 v114 v115 v116 v117 v118 v119 v120 s))
 (fun s => J_24 a2 a3 z85 v103 s.1 s.2.1 s.2.2.1 s.2.2.2.1 s.2.2.2.2.1 s.2.2.2.2.2.1 s.2.2.2.2.2.2.1 s.2.2.2.2.2.2.2)
@[simp] noncomputable def J_2b (a1 : Int) (a2 : Int) (a3 : Int) (v77 : List Yt10) (z85 : Int) (v103 : Int) (v104 : Int) (v105 : ByteArray) (v106 : Int) (v107 : Int) (v108 : Int) (v109 : Bool) (v110 : List Int) : Option Yt9 :=
 joinK (joinK ((bif (decide (v103 < a2)) then
 some (.go (decide (a2 < (IntKind.i64.wrap ((IntKind.i64.wrap ((IntKind.i64.wrap z85) + a2)) - v103)))))
 else some (.go false)))
 (fun s => J_d a2 v77 z85 v103 v104 v105 v106 v107 v108 v109 v110 s))
 (fun s => J_2c a1 a2 a3 z85 v103 s.1 s.2.1 s.2.2.1 s.2.2.2.1 s.2.2.2.2.1 s.2.2.2.2.2.1 s.2.2.2.2.2.2.1 s.2.2.2.2.2.2.2)
@[simp] noncomputable def J_2a (a1 : Int) (a2 : Int) (a3 : Int) (v77 : List Yt10) (v78 : Int) (v79 : ByteArray) (v80 : Int) (v81 : Int) (v82 : Int) (v83 : Bool) (v84 : List Int) (z85 : Int) (v86 : Int) (v87 : Int) : Option Yt9 :=
 joinK (loopF (fun f s => L_b a2 v77 z85 f s.1 s.2.1 s.2.2.1 s.2.2.2.1 s.2.2.2.2.1 s.2.2.2.2.2.1 s.2.2.2.2.2.2.1 s.2.2.2.2.2.2.2.1 s.2.2.2.2.2.2.2.2) (v86, v87, v78, v79, v80, v81, v82, v83, v84))
 (fun s => J_2b a1 a2 a3 v77 z85 s.1 s.2.1 s.2.2.1 s.2.2.2.1 s.2.2.2.2.1 s.2.2.2.2.2.1 s.2.2.2.2.2.2.1 s.2.2.2.2.2.2.2)
@[simp] noncomputable def J_27 (a1 : Int) (a2 : Int) (a3 : Int) (v77 : List Yt10) (v78 : Int) (v79 : ByteArray) (v80 : Int) (v81 : Int) (v82 : Int) (v83 : Bool) (v84 : List Int) : Option Yt9 :=
 (shrV .u64 (IntKind.u64.wrap (IntKind.i64.wrap (a1 + a3))) 1).bind (fun z85 => joinK ((bif (decide (a2 > (IntKind.i64.wrap z85))) then
 some (.go ((IntKind.i64.wrap ((IntKind.i64.wrap ((IntKind.i64.wrap z85) + a2)) - a3)), (IntKind.i64.wrap z85)))
 else some (.go (a1, a2))))
 (fun s => J_2a a1 a2 a3 v77 v78 v79 v80 v81 v82 v83 v84 z85 s.1 s.2))
@[simp] noncomputable def J_22 (a1 : Int) (a2 : Int) (a3 : Int) (v35 : List Yt10) (v36 : Int) (v37 : ByteArray) (v38 : Int) (v39 : Int) (v40 : Int) (v41 : Bool) (v42 : List Int) : Option Yt9 :=
 joinK ((bif ((IntKind.i64.wrap (a3 - a2)) == 1) then
 joinK (loopF (fun f s => L_a a2 v35 f s.1 s.2.1 s.2.2.1 s.2.2.2.1 s.2.2.2.2.1 s.2.2.2.2.2.1 s.2.2.2.2.2.2.1 s.2.2.2.2.2.2.2.1 s.2.2.2.2.2.2.2.2) (a1, a2, v36, v37, v38, v39, v40, v41, v42))
 (fun s => J_28 a2 v35 s.1 s.2.1 s.2.2.1 s.2.2.2.1 s.2.2.2.2.1 s.2.2.2.2.2.1 s.2.2.2.2.2.2.1 s.2.2.2.2.2.2.2)
 else some (.go (v35, v36, v37, v38, v39, v40, v41, v42))))
 (fun s => J_27 a1 a2 a3 s.1 s.2.1 s.2.2.1 s.2.2.2.1 s.2.2.2.2.1 s.2.2.2.2.2.1 s.2.2.2.2.2.2.1 s.2.2.2.2.2.2.2)
theorem U_2b (a0 : List Yt10) (a1 : Int) (a2 : Int) (a3 : Int) (a4x0x0 : Int) (a4x0x1 : ByteArray) (a4x0x2 : Int) (a4x0x3 : Int) (a4x0x4 : Int) (a4x0x5 : Bool) (a4x0x6 : List Int) : Le (joinK ((bif ((IntKind.i64.wrap (a2 - a1)) == 1) then
 joinK (loopF (fun f s => L_9 a0 a1 f s.1 s.2.1 s.2.2.1 s.2.2.2.1 s.2.2.2.2.1 s.2.2.2.2.2.1 s.2.2.2.2.2.2.1 s.2.2.2.2.2.2.2.1 s.2.2.2.2.2.2.2.2) (a2, a3, a4x0x0, a4x0x1, a4x0x2, a4x0x3, a4x0x4, a4x0x5, a4x0x6))
 (fun s => J_23 a0 a1 s.1 s.2.1 s.2.2.1 s.2.2.2.1 s.2.2.2.2.1 s.2.2.2.2.2.1 s.2.2.2.2.2.2.1 s.2.2.2.2.2.2.2)
 else some (.go (a0, a4x0x0, a4x0x1, a4x0x2, a4x0x3, a4x0x4, a4x0x5, a4x0x6))))
 (fun s => J_22 a1 a2 a3 s.1 s.2.1 s.2.2.1 s.2.2.2.1 s.2.2.2.2.1 s.2.2.2.2.2.1 s.2.2.2.2.2.2.1 s.2.2.2.2.2.2.2)) (F_j a0 a1 a2 a3 a4x0x0 a4x0x1 a4x0x2 a4x0x3 a4x0x4 a4x0x5 a4x0x6) := callL_le (tt := tt) (FT := FT) (SP := SP) (j := 120) rfl (by kernel_rfl)
noncomputable def L_1x (a2 : Int) (f0 : Yt35 → Option (Ex Yt9 Yt13)) (v1 : Int) (v2 : Int) (v3 : List Yt10) (v4 : Int) (v5 : ByteArray) (v6 : Int) (v7 : Int) (v8 : Int) (v9 : Bool) (v10 : List Int) : Option (Ex Yt9 Yt13) :=
 (bif (v1 != v2) then
 (bif (decide (v1 > v2)) then
 (F_t v3 (IntKind.i64.wrap (a2 - v1)) a2 v2 v4 v5 v6 v7 v8 v9 v10).bind (fun y11 => f0 ((IntKind.i64.wrap (v1 - v2)), v2, y11.1, y11.2.1, y11.2.2.1, y11.2.2.2.1, y11.2.2.2.2.1, y11.2.2.2.2.2.1, y11.2.2.2.2.2.2.1, y11.2.2.2.2.2.2.2))
 else (F_t v3 (IntKind.i64.wrap (a2 - v1)) (IntKind.i64.wrap ((IntKind.i64.wrap (a2 + v2)) - v1)) v1 v4 v5 v6 v7 v8 v9 v10).bind (fun y12 => f0 (v1, (IntKind.i64.wrap (v2 - v1)), y12.1, y12.2.1, y12.2.2.1, y12.2.2.2.1, y12.2.2.2.2.1, y12.2.2.2.2.2.1, y12.2.2.2.2.2.2.1, y12.2.2.2.2.2.2.2)))
 else some (.go (v1, v3, v4, v5, v6, v7, v8, v9, v10)))
@[simp] noncomputable def J_a (a2 : Int) (v13 : Int) (v14 : List Yt10) (v15 : Int) (v16 : ByteArray) (v17 : Int) (v18 : Int) (v19 : Int) (v20 : Bool) (v21 : List Int) : Option Yt9 :=
 (F_t v14 (IntKind.i64.wrap (a2 - v13)) a2 v13 v15 v16 v17 v18 v19 v20 v21).bind (fun y22 => some (y22.1, y22.2.1, y22.2.2.1, y22.2.2.2.1, y22.2.2.2.2.1, y22.2.2.2.2.2.1, y22.2.2.2.2.2.2.1, y22.2.2.2.2.2.2.2))
theorem U_28 (a0 : List Yt10) (a1 : Int) (a2 : Int) (a3 : Int) (a4x0x0 : Int) (a4x0x1 : ByteArray) (a4x0x2 : Int) (a4x0x3 : Int) (a4x0x4 : Int) (a4x0x5 : Bool) (a4x0x6 : List Int) : Le (joinK (loopF (fun f s => L_1x a2 f s.1 s.2.1 s.2.2.1 s.2.2.2.1 s.2.2.2.2.1 s.2.2.2.2.2.1 s.2.2.2.2.2.2.1 s.2.2.2.2.2.2.2.1 s.2.2.2.2.2.2.2.2.1 s.2.2.2.2.2.2.2.2.2) ((IntKind.i64.wrap (a2 - a1)), (IntKind.i64.wrap (a3 - a2)), a0, a4x0x0, a4x0x1, a4x0x2, a4x0x3, a4x0x4, a4x0x5, a4x0x6))
 (fun s => J_a a2 s.1 s.2.1 s.2.2.1 s.2.2.2.1 s.2.2.2.2.1 s.2.2.2.2.2.1 s.2.2.2.2.2.2.1 s.2.2.2.2.2.2.2.1 s.2.2.2.2.2.2.2.2)) (F_2t a0 a1 a2 a3 a4x0x0 a4x0x1 a4x0x2 a4x0x3 a4x0x4 a4x0x5 a4x0x6) := callL_le (tt := tt) (FT := FT) (SP := SP) (j := 121) rfl (by kernel_rfl)
noncomputable def L_23 (a1 : Int) (a2 : Int) (a3 : Int) (a4x0x0 : Int) (a4x0x1 : ByteArray) (a4x0x2 : Int) (a4x0x3 : Int) (a4x0x4 : Int) (a4x0x5 : Bool) (a4x0x6 : List Int) (f0 : (Int × Yt11) → Option Yt9) (v1 : Int) (v2 : List Yt10) : Option Yt9 :=
 (bif (decide (v1 < a3)) then
 (inx v2.length (IntKind.i64.wrap (a2 + v1))).bind (fun z3 => (ix v2 (IntKind.i64.wrap (a2 + v1))).bind (fun z4 => (inx v2.length (IntKind.i64.wrap (a1 + v1))).bind (fun z5 => (ix v2 (IntKind.i64.wrap (a1 + v1))).bind (fun z6 => (inx v2.length (IntKind.i64.wrap (a1 + v1))).bind (fun z7 => (stx v2 (IntKind.i64.wrap (a1 + v1)) z4).bind (fun z8 => (inx v2.length (IntKind.i64.wrap (a2 + v1))).bind (fun z9 => (stx z8 (IntKind.i64.wrap (a2 + v1)) z6).bind (fun z10 => f0 ((IntKind.i64.wrap (v1 + 1)), z10)))))))))
 else some (v2, a4x0x0, a4x0x1, a4x0x2, a4x0x3, a4x0x4, a4x0x5, a4x0x6))
theorem U_2a (a0 : List Yt10) (a1 : Int) (a2 : Int) (a3 : Int) (a4x0x0 : Int) (a4x0x1 : ByteArray) (a4x0x2 : Int) (a4x0x3 : Int) (a4x0x4 : Int) (a4x0x5 : Bool) (a4x0x6 : List Int) : Le (loopF (fun f s => L_23 a1 a2 a3 a4x0x0 a4x0x1 a4x0x2 a4x0x3 a4x0x4 a4x0x5 a4x0x6 f s.1 s.2) (0, a0)) (F_t a0 a1 a2 a3 a4x0x0 a4x0x1 a4x0x2 a4x0x3 a4x0x4 a4x0x5 a4x0x6) := callL_le (tt := tt) (FT := FT) (SP := SP) (j := 122) rfl (by kernel_rfl)
@[simp] noncomputable def J_j (v2 : Int) (f0 : Yt23 → Option Yt26) (v5 : Int) : Option Yt26 :=
 f0 (v5, (IntKind.i64.wrap (v2 + 1)))
noncomputable def L_e (a0 : List Yt10) (a1 : List Int) (f0 : Yt23 → Option Yt26) (v1 : Int) (v2 : Int) : Option Yt26 :=
 (bif (decide (v2 < (a0.length : Int))) then
 joinK ((ix a0 v2).bind (fun z3 => (F_s z3 a1).bind (fun y4 => (bif y4 then
 some (.go (IntKind.i64.wrap (v1 + 1)))
 else some (.go v1)))))
 (fun s => J_j v2 f0 s)
 else some (.go v1))
@[simp] noncomputable def J_i (v6 : Int) : Option Int :=
 some v6
theorem U_c (a0 : List Yt10) (a1 : List Int) : Le (joinK (loopF (fun f s => L_e a0 a1 f s.1 s.2) (0, 0))
 (fun s => J_i s)) (F_1m a0 a1) := callL_le (tt := tt) (FT := FT) (SP := SP) (j := 123) rfl (by kernel_rfl)
noncomputable def L_r (a0 : List Yt10) (f0 : Yt33 → Option (Ex Yt11 Yt11)) (v1 : List Yt10) (v2 : Int) : Option (Ex Yt11 Yt11) :=
 (bif (decide (v2 < (a0.length : Int))) then
 (ix a0 v2).bind (fun z3 => (F_1a z3).bind (fun y4 => (apx v1 ([y4])).bind (fun z5 => f0 (z5, (IntKind.i64.wrap (v2 + 1))))))
 else some (.go v1))
@[simp] noncomputable def J_1l (v6 : List Yt10) : Option Yt11 :=
 some v6
theorem U_1c (a0 : List Yt10) : Le (joinK (loopF (fun f s => L_r a0 f s.1 s.2) ([], 0))
 (fun s => J_1l s)) (F_15 a0) := callL_le (tt := tt) (FT := FT) (SP := SP) (j := 124) rfl (by kernel_rfl)
theorem U_p (a0 : List Yt10) (a1 : List Yt10) : Le ((F_2h a0 a1).bind (fun y1 => some y1)) (F_z a0 a1) := callL_le (tt := tt) (FT := FT) (SP := SP) (j := 125) rfl (by kernel_rfl)
noncomputable def L_10 (a0 : List Yt10) (a1 : List Yt10) (f0 : Yt31 → Option Yt18) (v1 : Bool) (v2 : Int) : Option Yt18 :=
 (bif (decide (v2 < (a0.length : Int))) then
 (ix a0 v2).bind (fun z3 => (ix a1 v2).bind (fun z4 => (F_s z3 z4).bind (fun y5 => (bif (!y5) then
 some (.ret false)
 else f0 (v1, (IntKind.i64.wrap (v2 + 1)))))))
 else some (.go v1))
@[simp] noncomputable def J_1v (v6 : Bool) : Option Bool :=
 some true
theorem U_1t (a0 : List Yt10) (a1 : List Yt10) : Le ((bif ((a0.length : Int) != (a1.length : Int)) then
 some false
 else joinK (loopF (fun f s => L_10 a0 a1 f s.1 s.2) (false, 0))
 (fun s => J_1v s))) (F_2h a0 a1) := callL_le (tt := tt) (FT := FT) (SP := SP) (j := 126) rfl (by kernel_rfl)
theorem U_d (a0 : List STable) (a1 : List SNode) (a2 : List SNode) (a3 : Int) : Le ((F_20 a0 a1 a2 a3).bind (fun y1 => some y1)) (F_1n a0 a1 a2 a3) := callL_le (tt := tt) (FT := FT) (SP := SP) (j := 127) rfl (by kernel_rfl)
@[simp] noncomputable def J_1a (v2 : Int) (v3 : Int) (f0 : Yt23 → Option Yt26) (v8 : Bool) : Option Yt26 :=
 (bif v8 then
 some (.ret v3)
 else f0 (v2, (IntKind.i64.wrap (v3 + 1))))
noncomputable def L_n (a0 : List STable) (a1 : List SNode) (a2 : List SNode) (a3 : Int) (f0 : Yt23 → Option Yt26) (v2 : Int) (v3 : Int) : Option Yt26 :=
 (bif (decide (v3 < a3)) then
 (F_11 a0 v3).bind (fun y4 => (F_g a0 y4 a1).bind (fun y5 => (F_g a0 y4 a2).bind (fun y6 => joinK ((bif (y5.2 == 0) then
 (bif (y6.2 == 0) then
 (F_1u y5.1 y6.1).bind (fun y7 => some (.go (!y7)))
 else some (.go false))
 else some (.go false)))
 (fun s => J_1a v2 v3 f0 s))))
 else some (.go v2))
@[simp] noncomputable def J_19 (v9 : Int) : Option Int :=
 some (-1)
theorem U_10 (a0 : List STable) (a1 : List SNode) (a2 : List SNode) (a3 : Int) : Le ((F_4 a3 0 50).bind (fun y1 => (bif (!y1) then
 some (-1)
 else joinK (loopF (fun f s => L_n a0 a1 a2 a3 f s.1 s.2) (0, 0))
 (fun s => J_19 s)))) (F_20 a0 a1 a2 a3) := callL_le (tt := tt) (FT := FT) (SP := SP) (j := 128) rfl (by kernel_rfl)
@[simp] noncomputable def J_v (v4 : Bool) : Option Bool :=
 some v4
theorem U_n (a0 : List Yt10) (a1 : List Yt10) : Le (joinK ((bif (decide ((a0.length : Int) ≤ 200)) then
 (bif (decide ((a1.length : Int) ≤ 200)) then
 (F_10 a0).bind (fun y1 => (F_10 a1).bind (fun y2 => (F_z y1 y2).bind (fun y3 => some (.go y3))))
 else some (.go false))
 else some (.go false)))
 (fun s => J_v s)) (F_1u a0 a1) := callL_le (tt := tt) (FT := FT) (SP := SP) (j := 129) rfl (by kernel_rfl)
theorem U_r (a0 : List Yt10) : Le ((bif (decide ((a0.length : Int) > 200)) then
 some ([])
 else (F_15 a0).bind (fun y1 => (F_2r y1).bind (fun y2 => some y2)))) (F_10 a0) := callL_le (tt := tt) (FT := FT) (SP := SP) (j := 130) rfl (by kernel_rfl)
noncomputable def L_2b (a0 : List Int) (a1 : List Int) (f0 : Yt23 → Option Yt26) (v1 : Int) (v2 : Int) : Option Yt26 :=
 (bif (decide (v2 < (a0.length : Int))) then
 (ix a0 v2).bind (fun z3 => (bif (decide (v2 ≥ (a1.length : Int))) then
 some (.ret 1)
 else (ix a1 v2).bind (fun z4 => (F_v z3 z4).bind (fun y5 => (bif (y5 != 0) then
 some (.ret y5)
 else f0 (v1, (IntKind.i64.wrap (v2 + 1))))))))
 else some (.go v1))
@[simp] noncomputable def J_3r (a0 : List Int) (a1 : List Int) (v6 : Int) : Option Int :=
 (bif (decide ((a0.length : Int) < (a1.length : Int))) then
 some (-1)
 else some 0)
theorem U_3o (a0 : List Int) (a1 : List Int) : Le (joinK (loopF (fun f s => L_2b a0 a1 f s.1 s.2) (0, 0))
 (fun s => J_3r a0 a1 s)) (F_3o a0 a1) := callL_le (tt := tt) (FT := FT) (SP := SP) (j := 131) rfl (by kernel_rfl)
theorem U_25 (a0 : List Yt10) : Le (sortRF a0) (F_2r a0) := callL_sp (tt := tt) (FT := FT) (SP := SP) (j := 132) (v := (show InVals (FT 132) from ((a0, (()), ()), (())))) (f := fun v => sortRF v.1.1) rfl
end Go.Proofs.YtficimgbanaafaaGreatX
