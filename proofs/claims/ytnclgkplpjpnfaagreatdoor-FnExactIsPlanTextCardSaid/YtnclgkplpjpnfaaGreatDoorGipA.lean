/- Printed: for each function that the statement reaches, a plain function, and that it is what the program's function answers. -/
import Derived.Test.YtnclgkplpjpnfaaGreatDoorProg
import Derived.Test.YtnclgkplpjpnfaaGreatDoorTripD
set_option linter.all false
namespace Go.Proofs.YtnclgkplpjpnfaaGreatDoorX
open Go Go.Proofs Go.Proofs.YtnclgkplpjpnfaaGreatDoorT
set_option maxRecDepth 100000
set_option linter.all false
abbrev SNode := Int × ByteArray × Int × Int × Int × Bool × (List Int) × Unit
abbrev Sl06Reader := (List ByteArray) × Int × Bool × Unit
abbrev SwordReader := (List ByteArray) × Int × Int × Unit
abbrev Yv1 : Ty := .int .i64
abbrev Yv0 : Ty := .pr Yv1 (.pr .str (.pr Yv1 (.pr Yv1 (.pr Yv1 (.pr .bool (.pr (.sl 3 Yv1) .un))))))
abbrev Yv2 : Ty := .sl 9 .str
abbrev Yv3 : Ty := .sl 35 Yv0
abbrev Yt4 : Type := List ByteArray
abbrev Yt5 : Type := Ex (SNode × Yt4 × Int × Bool) (Int × ByteArray × Int × Int × Int × Bool × (List Int) × Yt4 × Int × Bool)
abbrev Yt6 : Type := Ex Bool (Int × ByteArray × Int × Int × Int × Bool × (List Int) × Bool)
abbrev Yt7 : Type := Ex Bool Bool
abbrev Yt8 : Type := Int × Bool × Yt4 × Int × Bool
abbrev Yt9 : Type := Ex ByteArray ByteArray
abbrev Yt10 : Type := Ex (Int × Int) (Int × Int × Int × Int)
abbrev Yt11 : Type := (List SNode) × Int
abbrev Yt12 : Type := ByteArray × Yt4 × Int × Bool
abbrev Yt13 : Type := Ex (SNode × Yt4 × Int × Int) (Int × ByteArray × Int × Int × Int × Bool × (List Int) × Yt4 × Int × Int)
abbrev Yt14 : Type := Int × Bool
abbrev Yl0 : LT := ⟨false, false, .bool⟩
abbrev Yl1 : LT := ⟨false, false, Yv1⟩
abbrev Yl2 : LT := ⟨true, true, Yv1⟩
abbrev Yl3 : LT := ⟨true, true, Yv2⟩
abbrev Yl4 : LT := ⟨false, false, .str⟩
abbrev Yl5 : LT := ⟨true, true, .bool⟩
abbrev Yl6 : LT := ⟨true, true, Yv3⟩
abbrev Yl7 : LT := ⟨true, true, .str⟩
def ttL : List (Nat × Ty) := [(3, Yv1),
 (4, .bool),
 (5, (.int .u8)),
 (9, .str),
 (25, Yv3),
 (29, Yv2),
 (32, (.pr Yv2 (.pr Yv1 (.pr .bool .un)))),
 (33, (.sl 3 Yv1)),
 (35, Yv0),
 (43, (.pr Yv2 (.pr Yv1 (.pr Yv1 .un)))),
 (69, (.sl 5 (.int .u8)))]
def tt (T : TypeId) : Option Ty := lkT ttL T
theorem tt_ok : TTok Tryz.prog tt := lkT_ok (by kernel_rfl)
noncomputable def i_0 : Inst := { f := 4, fn := Tryz.f4, n := 15, pds := [.rd .str], caps := [], res := [Yl0], h := { ca := [(9, 1), (11, 24)], code := .nil } }
noncomputable def i_18 : Inst := { f := 7, fn := Tryz.f7, n := 18, pds := [.rd .str], caps := [], res := [Yl0], h := { al := [13], ca := [(7, 2), (14, 21)], code := (.two .nil (.two .nil (.join ⟨[2], [(2, .v Yl0)]⟩ .nil .nil))) } }
noncomputable def i_1b : Inst := { f := 9, fn := Tryz.f9, n := 47, pds := [.rd .str], caps := [], res := [Yl6, Yl1], h := { al := [40], nn := [23], ca := [(12, 3), (17, 4), (29, 16), (41, 17)], code := (.two .nil (.two .nil (.two .nil (.two .nil (.join ⟨[2, 3, 4, 5], [(2, .v Yl6), (3, .v Yl1), (4, .bx 32 [Yl3, Yl2, Yl5]), (5, .v Yl6)]⟩ (.two .nil (.loop ⟨[2, 3, 4, 5, 6], [(2, .v Yl6), (3, .v Yl1), (4, .bx 32 [Yl3, Yl2, Yl5]), (5, .v Yl6), (6, .v Yl1)]⟩ .nil)) .nil))))) } }
noncomputable def i_1f : Inst := { f := 13, fn := Tryz.f13, n := 46, pds := [.rd .str], caps := [], res := [Yl3], h := { code := (.two .nil (.two .nil (.two .nil (.two .nil (.join ⟨[3, 4], [(3, .v Yl3)]⟩ (.two .nil (.loop ⟨[3, 4, 5], [(3, .v Yl3), (4, .v Yl4), (5, .v Yl1)]⟩ (.two .nil (.join ⟨[3, 4], [(3, .v Yl3), (4, .v Yl4)]⟩ (.two (.join ⟨[], [(31, .v Yl0)]⟩ .nil .nil) (.join ⟨[3], [(3, .v Yl3)]⟩ .nil .nil)) .nil)))) .nil))))) } }
noncomputable def i_1p : Inst := { f := 14, fn := Tryz.f14, n := 135, pds := [.pt true 32 [Yl3, Yl2, Yl5]], caps := [], res := [⟨true, true, Yv0⟩], h := { tk := [19, 98, 134], ca := [(9, 5), (11, 6), (12, 7), (18, 8), (25, 6), (29, 9), (32, 8), (37, 11), (41, 15), (43, 6), (44, 7), (50, 8), (63, 11), (72, 11), (76, 10), (79, 8), (94, 11), (107, 11), (113, 11), (121, 11), (129, 11)], code := (.two .nil (.two .nil (.two .nil (.join ⟨[0, 3, 10, 14, 135], [(3, .bx 35 [Yl2, Yl4, Yl2, Yl2, Yl2, Yl5, ⟨true, true, (.sl 3 Yv1)⟩]), (135, .bx 32 [Yl3, Yl2, Yl5])]⟩ (.two .nil (.two .nil (.two .nil (.two .nil (.two (.two .nil (.two .nil (.join ⟨[0, 10, 36, 42, 135], [(0, .fix (.eq 135)), (135, .bx 32 [Yl3, Yl2, Yl5])]⟩ .nil (.join ⟨[], [(60, .v Yl0)]⟩ .nil .nil)))) (.two .nil (.two (.two .nil (.join ⟨[0, 10, 71, 135], [(0, .fix (.eq 135)), (135, .bx 32 [Yl3, Yl2, Yl5])]⟩ .nil (.two .nil (.loop ⟨[0, 3, 6, 14, 20, 135], [(0, .fix (.eq 135)), (3, .bx 35 [Yl2, Yl7, Yl2, Yl2, Yl2, Yl5, ⟨true, true, (.sl 3 Yv1)⟩]), (6, .v Yl1), (135, .bx 32 [Yl3, Yl2, Yl5])]⟩ (.two (.join ⟨[], [(89, .v Yl0)]⟩ .nil .nil) .nil))))) .nil))))))) .nil)))) } }
noncomputable def i_1s : Inst := { f := 25, fn := Tryz.f25, n := 2, pds := [], caps := [], res := [Yl3], h := { code := .nil } }
noncomputable def i_1t : Inst := { f := 26, fn := Tryz.f26, n := 42, pds := [.pt true 32 [Yl3, Yl2, Yl5]], caps := [], res := [Yl4], h := { code := (.two .nil (.two (.join ⟨[], [(19, .v Yl0)]⟩ .nil .nil) .nil)) } }
noncomputable def i_1n : Inst := { f := 24, fn := Tryz.f24, n := 19, pds := [.rd Yv2, .rd .str], caps := [], res := [Yl1], h := { code := (.two .nil (.join ⟨[4], [(4, .v Yl1)]⟩ (.two .nil (.loop ⟨[4, 5], [(4, .v Yl1), (5, .v Yl1)]⟩ .nil)) .nil)) } }
noncomputable def i_1m : Inst := { f := 27, fn := Tryz.f27, n := 18, pds := [.pt true 32 [Yl3, Yl2, Yl5]], caps := [], res := [], h := { code := .nil } }
noncomputable def i_1e : Inst := { f := 28, fn := Tryz.f28, n := 41, pds := [.rd .str], caps := [], res := [Yl0], h := { ca := [(6, 10)], code := (.two .nil (.two (.join ⟨[], [(12, .v Yl0)]⟩ .nil .nil) (.join ⟨[2], [(2, .v Yl0)]⟩ (.two .nil (.loop ⟨[2, 3], [(2, .v Yl0), (3, .v Yl1)]⟩ (.two .nil (.two (.join ⟨[], [(40, .v Yl0)]⟩ .nil .nil) .nil)))) .nil))) } }
noncomputable def i_1g : Inst := { f := 31, fn := Tryz.f31, n := 15, pds := [.rd Yv1, .rd Yv1, .rd Yv1], caps := [], res := [Yl0], h := { code := (.two .nil (.join ⟨[6], [(6, .v Yl0)]⟩ .nil .nil)) } }
noncomputable def i_1o : Inst := { f := 29, fn := Tryz.f29, n := 43, pds := [.pt true 32 [Yl3, Yl2, Yl5], .rd .bool], caps := [], res := [Yl1, Yl0], h := { ca := [(11, 6), (27, 12), (40, 8)], code := (.two .nil (.two .nil (.two .nil (.join ⟨[], [(7, .v Yl0)]⟩ .nil (.join ⟨[6], [(6, .v Yl4)]⟩ .nil (.two .nil (.two (.join ⟨[], [(38, .v Yl0)]⟩ .nil .nil) .nil))))))) } }
noncomputable def i_1j : Inst := { f := 54, fn := Tryz.f54, n := 62, pds := [.rd .str], caps := [], res := [Yl1, Yl0], h := { ca := [(20, 10), (55, 13), (60, 14)], code := (.two .nil (.two .nil (.join ⟨[4], [(4, .v Yl4)]⟩ (.join ⟨[], [(15, .v Yl0)]⟩ .nil .nil) (.two .nil (.two .nil (.join ⟨[2, 3, 5], [(2, .v Yl1), (3, .v Yl0), (5, .v Yl1)]⟩ (.two .nil (.loop ⟨[2, 3, 5, 6], [(2, .v Yl1), (3, .v Yl0), (5, .v Yl1), (6, .v Yl1)]⟩ (.two .nil (.two (.two (.join ⟨[], [(37, .v Yl0)]⟩ .nil .nil) .nil) .nil)))) (.join ⟨[5], [(5, .v Yl1)]⟩ .nil (.join ⟨[2, 3], [(2, .v Yl1), (3, .v Yl0)]⟩ .nil .nil)))))))) } }
noncomputable def i_1h : Inst := { f := 34, fn := Tryz.f34, n := 31, pds := [.rd Yv1], caps := [], res := [Yl4], h := { code := (.two .nil (.two .nil (.two .nil (.two .nil (.join ⟨[0, 3], [(3, .v Yl4)]⟩ (.loop ⟨[0, 3], [(0, .v Yl1), (3, .v Yl4)]⟩ (.two .nil (.two .nil (.join ⟨[5], [(5, .v Yl1)]⟩ .nil .nil)))) .nil))))) } }
noncomputable def i_1i : Inst := { f := 56, fn := Tryz.f56, n := 5, pds := [.rd Yv1], caps := [], res := [Yl0], h := { ca := [(4, 10)], code := .nil } }
noncomputable def i_1r : Inst := { f := 30, fn := Tryz.f30, n := 2, pds := [], caps := [], res := [Yl3], h := { code := .nil } }
noncomputable def i_17 : Inst := { f := 15, fn := Tryz.f15, n := 15, pds := [.rd Yv1], caps := [], res := [Yl1], h := { code := (.two .nil (.two (.two .nil (.two .nil (.two .nil (.join ⟨[], [(6, .v Yl0)]⟩ .nil (.two .nil (.join ⟨[], [(9, .v Yl0)]⟩ .nil .nil)))))) .nil)) } }
noncomputable def i_1c : Inst := { f := 16, fn := Tryz.f16, n := 31, pds := [.rd Yv3], caps := [], res := [Yl0], h := { ca := [(8, 10), (20, 18), (24, 20)], code := (.two .nil (.two .nil (.join ⟨[2], [(2, .v Yl0)]⟩ (.two .nil (.loop ⟨[2, 3], [(2, .v Yl0), (3, .v Yl1)]⟩ .nil)) .nil))) } }
noncomputable def i_19 : Inst := { f := 32, fn := Tryz.f32, n := 186, pds := [.rd Yv0], caps := [], res := [Yl0], h := { ca := [(39, 10), (49, 9), (69, 19), (73, 10), (78, 14), (109, 19), (114, 10), (134, 19), (138, 19), (149, 19), (168, 10)], code := (.two .nil (.two (.join ⟨[], [(42, .v Yl0)]⟩ .nil .nil) (.join ⟨[2], [(2, .v Yl0)]⟩ (.two .nil (.two .nil (.two (.join ⟨[2], [(2, .v Yl0)]⟩ .nil .nil) (.two .nil (.two (.join ⟨[2], [(2, .v Yl0)]⟩ .nil .nil) (.two .nil (.two (.join ⟨[2], [(2, .v Yl0)]⟩ (.two .nil (.loop ⟨[2, 3], [(2, .v Yl0), (3, .v Yl1)]⟩ .nil)) (.join ⟨[2], [(2, .v Yl0)]⟩ .nil .nil)) (.two .nil (.two (.join ⟨[2], [(2, .v Yl0)]⟩ .nil .nil) (.two .nil (.two (.join ⟨[2], [(2, .v Yl0)]⟩ .nil .nil) (.two .nil (.two (.join ⟨[2], [(2, .v Yl0)]⟩ .nil .nil) (.join ⟨[], [(170, .v Yl0)]⟩ .nil (.two (.join ⟨[2], [(2, .v Yl0)]⟩ .nil .nil) .nil))))))))))))))) .nil))) } }
noncomputable def i_1k : Inst := { f := 55, fn := Tryz.f55, n := 5, pds := [.rd Yv1], caps := [], res := [Yl0], h := { ca := [(4, 10)], code := .nil } }
noncomputable def i_1l : Inst := { f := 33, fn := Tryz.f33, n := 51, pds := [.rd Yv3, .rd Yv1, .rd Yv1], caps := [], res := [Yl1, Yl1], h := { ca := [(29, 16), (38, 20)], code := (.two .nil (.two (.join ⟨[], [(20, .v Yl0)]⟩ .nil .nil) (.two .nil (.two .nil (.join ⟨[6, 7, 8, 9], [(6, .v Yl1), (7, .v Yl1), (8, .v Yl1), (9, .v Yl1)]⟩ (.two .nil (.loop ⟨[6, 7, 8, 9, 10], [(6, .v Yl1), (7, .v Yl1), (8, .v Yl1), (9, .v Yl1), (10, .v Yl1)]⟩ (.two .nil (.join ⟨[6, 7, 8, 9], [(6, .v Yl1), (7, .v Yl1), (8, .v Yl1), (9, .v Yl1)]⟩ .nil .nil)))) .nil))))) } }
noncomputable def i_1d : Inst := { f := 10, fn := Tryz.f10, n := 26, pds := [.rd Yv3], caps := [], res := [Yl4], h := { ca := [(6, 17), (23, 22)], code := (.two .nil (.two .nil (.two .nil (.join ⟨[3], [(3, .v Yl4)]⟩ (.two .nil (.loop ⟨[3, 4], [(3, .v Yl4), (4, .v Yl1)]⟩ (.two .nil (.two (.join ⟨[3], [(3, .v Yl4)]⟩ .nil .nil) .nil)))) .nil)))) } }
noncomputable def i_1a : Inst := { f := 17, fn := Tryz.f17, n := 99, pds := [.rd Yv0], caps := [], res := [Yl4], h := { ca := [(6, 18), (8, 5), (28, 13), (31, 15), (43, 23), (52, 13), (68, 13), (76, 13), (81, 13), (89, 13), (96, 23)], code := (.two .nil (.two .nil (.two .nil (.join ⟨[2, 3], [(2, .v Yl4), (3, .v Yl4)]⟩ (.two .nil (.two .nil (.two .nil (.two .nil (.two .nil (.two .nil (.two (.two .nil (.two .nil (.loop ⟨[3, 4], [(3, .v Yl4), (4, .v Yl1)]⟩ .nil))) .nil))))))) .nil)))) } }
noncomputable def i_1q : Inst := { f := 35, fn := Tryz.f35, n := 12, pds := [.rd Yv0], caps := [], res := [Yl4], h := { ca := [(7, 13), (11, 13)], code := .nil } }
noncomputable def i_2 : Inst := { f := 8, fn := Tryz.f8, n := 16, pds := [.rd .str], caps := [], res := [Yl0], h := { ca := [(7, 25)], code := (.two .nil (.two .nil (.join ⟨[2], [(2, .v Yl0)]⟩ .nil .nil))) } }
noncomputable def i_b : Inst := { f := 6, fn := Tryz.f6, n := 15, pds := [.rd .str], caps := [], res := [Yl4, Yl0], h := { al := [13], ca := [(8, 26), (14, 63)], code := .nil } }
noncomputable def i_7 : Inst := { f := 11, fn := Tryz.f11, n := 62, pds := [.rd .str], caps := [], res := [Yl6, Yl1], h := { al := [53], nn := [31], ca := [(12, 27), (20, 29), (37, 48), (54, 49)], code := (.two .nil (.two .nil (.two .nil (.two .nil (.join ⟨[2, 3, 4, 5, 14], [(2, .v Yl6), (3, .v Yl1), (4, .fix (.eq 14)), (5, .v Yl6), (14, .bx 43 [Yl3, Yl2, Yl2])]⟩ (.two .nil (.loop ⟨[2, 3, 4, 5, 6, 14], [(2, .v Yl6), (3, .v Yl1), (4, .fix (.eq 14)), (5, .v Yl6), (6, .v Yl1), (14, .bx 43 [Yl3, Yl2, Yl2])]⟩ .nil)) .nil))))) } }
noncomputable def i_d : Inst := { f := 18, fn := Tryz.f18, n := 8, pds := [.rd .str], caps := [], res := [Yl3], h := { ca := [(7, 28)], code := .nil } }
noncomputable def i_1v : Inst := { f := 36, fn := Tryz.f36, n := 65, pds := [.rd .str, .fn 37 []], caps := [], res := [Yl3], h := {} }
noncomputable def i_t : Inst := { f := 19, fn := Tryz.f19, n := 71, pds := [.pt true 43 [Yl3, Yl2, Yl2]], caps := [], res := [⟨true, true, Yv0⟩], h := { tk := [41, 70], ca := [(5, 30), (6, 31), (14, 35), (18, 39), (21, 43), (22, 31), (29, 44), (37, 39), (43, 39), (51, 39), (54, 39), (59, 39), (65, 44)], code := (.two .nil (.two .nil (.join ⟨[0, 3, 4, 71], [(3, .bx 35 [Yl2, Yl7, Yl2, Yl2, Yl2, Yl5, ⟨true, true, (.sl 3 Yv1)⟩]), (71, .bx 43 [Yl3, Yl2, Yl2])]⟩ (.two .nil (.two .nil (.two .nil (.two .nil (.two .nil (.two .nil (.two (.two .nil (.loop ⟨[0, 3, 4, 8, 36, 38, 71], [(0, .fix (.eq 71)), (3, .bx 35 [Yl2, Yl7, Yl2, Yl2, Yl2, Yl5, ⟨true, true, (.sl 3 Yv1)⟩]), (38, .v Yl1), (71, .bx 43 [Yl3, Yl2, Yl2])]⟩ .nil)) .nil))))))) .nil))) } }
noncomputable def i_j : Inst := { f := 39, fn := Tryz.f39, n := 2, pds := [], caps := [], res := [Yl3], h := { code := .nil } }
noncomputable def i_z : Inst := { f := 38, fn := Tryz.f38, n := 10, pds := [.pt true 43 [Yl3, Yl2, Yl2], .rd Yv2], caps := [], res := [Yl1], h := { ca := [(8, 32)], code := .nil } }
noncomputable def i_s : Inst := { f := 40, fn := Tryz.f40, n := 50, pds := [.pt true 43 [Yl3, Yl2, Yl2], .fn 57 [(true, 29, [⟨false, false, Yv2⟩]), (true, 3, [Yl1])]], caps := [], res := [], h := { ca := [(40, 33)], code := (.two .nil (.two .nil (.join ⟨[1, 51, 52], [(17, .v Yl0), (51, .bx 29 [⟨false, false, Yv2⟩]), (52, .bx 3 [Yl1])]⟩ .nil .nil))) } }
noncomputable def i_10 : Inst := { f := 57, fn := Tryz.f57, n := 10, pds := [.rd .str], caps := [(true, 29, [⟨false, false, Yv2⟩]), (true, 3, [Yl1])], res := [Yl0], h := { ca := [(7, 34)], code := .nil } }
noncomputable def i_16 : Inst := { f := 58, fn := Tryz.f58, n := 19, pds := [.rd Yv2, .rd .str], caps := [], res := [Yl1], h := { code := (.two .nil (.join ⟨[4], [(4, .v Yl1)]⟩ (.two .nil (.loop ⟨[4, 8], [(4, .v Yl1), (8, .v Yl1)]⟩ .nil)) .nil)) } }
noncomputable def i_p : Inst := { f := 40, fn := Tryz.f40, n := 50, pds := [.pt true 43 [Yl3, Yl2, Yl2], .fn 41 [(true, 35, [Yl2, Yl7, Yl2, Yl2, Yl2, Yl5, ⟨true, true, (.sl 3 Yv1)⟩])]], caps := [], res := [], h := { ca := [(40, 36)], code := (.two .nil (.two .nil (.join ⟨[1, 51], [(17, .v Yl0), (51, .bx 35 [Yl2, Yl7, Yl2, Yl2, Yl2, Yl5, ⟨true, true, (.sl 3 Yv1)⟩])]⟩ .nil .nil))) } }
noncomputable def i_u : Inst := { f := 41, fn := Tryz.f41, n := 8, pds := [.rd .str], caps := [(true, 35, [Yl2, Yl7, Yl2, Yl2, Yl2, Yl5, ⟨true, true, (.sl 3 Yv1)⟩])], res := [Yl0], h := { ca := [(7, 37)], code := .nil } }
noncomputable def i_c : Inst := { f := 42, fn := Tryz.f42, n := 38, pds := [.rd .str], caps := [], res := [Yl0], h := { ca := [(37, 38)], code := (.two .nil (.join ⟨[2], [(2, .v Yl0)]⟩ (.two .nil (.loop ⟨[2, 8], [(2, .v Yl0), (8, .v Yl1)]⟩ (.two .nil (.two .nil (.two (.two .nil (.two .nil (.join ⟨[], [(5, .v Yl0)]⟩ .nil (.join ⟨[], [(33, .v Yl0)]⟩ .nil .nil)))) .nil))))) .nil)) } }
noncomputable def i_f : Inst := { f := 46, fn := Tryz.f46, n := 15, pds := [.rd Yv1, .rd Yv1, .rd Yv1], caps := [], res := [Yl0], h := { code := (.two .nil (.join ⟨[6], [(6, .v Yl0)]⟩ .nil .nil)) } }
noncomputable def i_v : Inst := { f := 43, fn := Tryz.f43, n := 12, pds := [.pt true 43 [Yl3, Yl2, Yl2], .rd Yv1, .rd Yv1], caps := [], res := [Yl1], h := { ca := [(10, 40)], code := .nil } }
noncomputable def i_r : Inst := { f := 40, fn := Tryz.f40, n := 50, pds := [.pt true 43 [Yl3, Yl2, Yl2], .fn 59 [(true, 3, [Yl1]), (true, 3, [Yl1]), (true, 3, [Yl1])]], caps := [], res := [], h := { ca := [(40, 41)], code := (.two .nil (.two .nil (.join ⟨[1, 51, 52, 53], [(17, .v Yl0), (51, .bx 3 [Yl1]), (52, .bx 3 [Yl1]), (53, .bx 3 [Yl1])]⟩ .nil .nil))) } }
noncomputable def i_y : Inst := { f := 59, fn := Tryz.f59, n := 21, pds := [.rd .str], caps := [(true, 3, [Yl1]), (true, 3, [Yl1]), (true, 3, [Yl1])], res := [Yl0], h := { ca := [(10, 42), (19, 38)], code := (.two .nil (.two .nil (.two .nil (.join ⟨[5], [(5, .v Yl0)]⟩ .nil .nil)))) } }
noncomputable def i_m : Inst := { f := 60, fn := Tryz.f60, n := 25, pds := [.rd .str], caps := [], res := [Yl1, Yl0], h := {} }
noncomputable def i_l : Inst := { f := 44, fn := Tryz.f44, n := 2, pds := [], caps := [], res := [Yl3], h := { code := .nil } }
noncomputable def i_w : Inst := { f := 45, fn := Tryz.f45, n := 11, pds := [.pt true 43 [Yl3, Yl2, Yl2]], caps := [], res := [Yl1, Yl0], h := { ca := [(8, 45)], code := .nil } }
noncomputable def i_q : Inst := { f := 40, fn := Tryz.f40, n := 50, pds := [.pt true 43 [Yl3, Yl2, Yl2], .fn 61 [(true, 3, [Yl1]), (true, 4, [Yl0])]], caps := [], res := [], h := { ca := [(40, 46)], code := (.two .nil (.two .nil (.join ⟨[1, 51, 52], [(17, .v Yl0), (51, .bx 3 [Yl1]), (52, .bx 4 [Yl0])]⟩ .nil .nil))) } }
noncomputable def i_x : Inst := { f := 61, fn := Tryz.f61, n := 28, pds := [.rd .str], caps := [(true, 3, [Yl1]), (true, 4, [Yl0])], res := [Yl0], h := { ca := [(9, 47), (12, 42)], code := (.two .nil (.two .nil (.two .nil (.two .nil (.join ⟨[4], [(4, .v Yl0)]⟩ .nil .nil))))) } }
noncomputable def i_1x : Inst := { f := 62, fn := Tryz.f62, n := 8, pds := [.rd .str, .rd .str], caps := [], res := [Yl4], h := {} }
noncomputable def i_1 : Inst := { f := 20, fn := Tryz.f20, n := 15, pds := [.rd Yv1], caps := [], res := [Yl1], h := { code := (.two .nil (.two (.two .nil (.two .nil (.two .nil (.join ⟨[], [(6, .v Yl0)]⟩ .nil (.two .nil (.join ⟨[], [(9, .v Yl0)]⟩ .nil .nil)))))) .nil)) } }
noncomputable def i_8 : Inst := { f := 21, fn := Tryz.f21, n := 16, pds := [.rd Yv3], caps := [], res := [Yl0], h := { ca := [(5, 38), (9, 50), (12, 62)], code := (.two .nil (.two (.join ⟨[], [(10, .v Yl0)]⟩ .nil .nil) .nil)) } }
noncomputable def i_11 : Inst := { f := 47, fn := Tryz.f47, n := 9, pds := [.rd Yv3, .fn 48 []], caps := [], res := [Yl0], h := { ca := [(7, 51)], code := .nil } }
noncomputable def i_14 : Inst := { f := 63, fn := Tryz.f63, n := 19, pds := [.rd Yv3, .fn 48 []], caps := [], res := [Yl1], h := { ca := [(16, 52)], code := (.two .nil (.join ⟨[4], [(4, .v Yl1)]⟩ (.two .nil (.loop ⟨[4, 8], [(4, .v Yl1), (8, .v Yl1)]⟩ .nil)) .nil)) } }
noncomputable def i_9 : Inst := { f := 48, fn := Tryz.f48, n := 6, pds := [.rd Yv0], caps := [], res := [Yl0], h := { ca := [(4, 53)], code := .nil } }
noncomputable def i_3 : Inst := { f := 49, fn := Tryz.f49, n := 116, pds := [.rd Yv0], caps := [], res := [Yl0], h := { ca := [(13, 37), (19, 54), (23, 38), (29, 56), (53, 55), (64, 38), (68, 57), (76, 54), (80, 54), (88, 54), (94, 38), (102, 55), (114, 60)], code := (.two .nil (.two .nil (.two .nil (.two .nil (.join ⟨[3, 4, 6], [(3, .bx 35 [Yl1, Yl4, Yl1, Yl1, Yl1, Yl0, ⟨false, false, (.sl 3 Yv1)⟩]), (4, .v Yl0)]⟩ (.two .nil (.two .nil (.two .nil (.two .nil (.two (.join ⟨[4], [(4, .v Yl0)]⟩ .nil (.join ⟨[4], [(4, .v Yl0)]⟩ .nil .nil)) (.two .nil (.two (.join ⟨[4], [(4, .v Yl0)]⟩ .nil .nil) (.two .nil (.two (.join ⟨[4], [(4, .v Yl0)]⟩ .nil .nil) (.two .nil (.two .nil (.two .nil (.two (.join ⟨[4], [(4, .v Yl0)]⟩ .nil .nil) (.join ⟨[], [(107, .v Yl0)]⟩ .nil .nil)))))))))))))) (.join ⟨[2], [(2, .v Yl0)]⟩ .nil .nil)))))) } }
noncomputable def i_g : Inst := { f := 64, fn := Tryz.f64, n := 5, pds := [.rd Yv1], caps := [], res := [Yl0], h := { ca := [(4, 38)], code := .nil } }
noncomputable def i_i : Inst := { f := 65, fn := Tryz.f65, n := 5, pds := [.rd Yv1], caps := [], res := [Yl0], h := { ca := [(4, 38)], code := .nil } }
noncomputable def i_h : Inst := { f := 66, fn := Tryz.f66, n := 5, pds := [.rd Yv1], caps := [], res := [Yl0], h := { ca := [(4, 38)], code := .nil } }
noncomputable def i_12 : Inst := { f := 67, fn := Tryz.f67, n := 9, pds := [.rd (.sl 3 Yv1), .fn 68 []], caps := [], res := [Yl0], h := { ca := [(7, 58)], code := .nil } }
noncomputable def i_15 : Inst := { f := 76, fn := Tryz.f76, n := 19, pds := [.rd (.sl 3 Yv1), .fn 68 []], caps := [], res := [Yl1], h := { ca := [(16, 59)], code := (.two .nil (.join ⟨[4], [(4, .v Yl1)]⟩ (.two .nil (.loop ⟨[4, 8], [(4, .v Yl1), (8, .v Yl1)]⟩ .nil)) .nil)) } }
noncomputable def i_4 : Inst := { f := 68, fn := Tryz.f68, n := 6, pds := [.rd Yv1], caps := [], res := [Yl0], h := { ca := [(4, 54)], code := .nil } }
noncomputable def i_n : Inst := { f := 69, fn := Tryz.f69, n := 52, pds := [.rd Yv0, .rd Yv0], caps := [], res := [Yl0], h := { ca := [(50, 61)], code := (.two .nil (.join ⟨[4], [(4, .v Yl0)]⟩ .nil .nil)) } }
noncomputable def i_13 : Inst := { f := 77, fn := Tryz.f77, n := 26, pds := [.rd (.sl 3 Yv1), .rd (.sl 3 Yv1)], caps := [], res := [Yl0], h := { code := (.two .nil (.two .nil (.join ⟨[4], [(4, .v Yl0)]⟩ (.two .nil (.loop ⟨[4, 13], [(4, .v Yl0), (13, .v Yl1)]⟩ .nil)) .nil))) } }
noncomputable def i_e : Inst := { f := 50, fn := Tryz.f50, n := 35, pds := [.rd Yv3, .rd Yv1, .rd Yv1], caps := [], res := [Yl1], h := { ca := [(23, 48), (30, 62)], code := (.two .nil (.two (.join ⟨[], [(15, .v Yl0)]⟩ .nil .nil) (.two .nil (.join ⟨[6, 7], [(6, .v Yl1), (7, .v Yl1)]⟩ (.two .nil (.loop ⟨[6, 7, 24], [(6, .v Yl1), (7, .v Yl1), (24, .v Yl1)]⟩ .nil)) .nil)))) } }
noncomputable def i_a : Inst := { f := 12, fn := Tryz.f12, n := 23, pds := [.rd Yv3], caps := [], res := [Yl4], h := { al := [21], ca := [(7, 49), (17, 64), (22, 68)], code := (.two .nil (.two .nil (.two .nil (.join ⟨[3], [(3, .v Yl3)]⟩ (.two .nil (.loop ⟨[3, 11], [(3, .v Yl3), (11, .v Yl1)]⟩ .nil)) .nil)))) } }
noncomputable def i_5 : Inst := { f := 22, fn := Tryz.f22, n := 95, pds := [.rd Yv0], caps := [], res := [Yl4], h := { al := [93], ca := [(7, 53), (9, 30), (29, 65), (30, 43), (42, 67), (51, 65), (63, 65), (72, 65), (75, 65), (83, 65), (90, 67), (94, 68)], code := (.two .nil (.two .nil (.two .nil (.join ⟨[3], [(3, .v Yl3)]⟩ (.two .nil (.two .nil (.two .nil (.two .nil (.two .nil (.two .nil (.two (.two .nil (.two .nil (.loop ⟨[3, 57], [(3, .v Yl3), (57, .v Yl1)]⟩ .nil))) .nil))))))) .nil)))) } }
noncomputable def i_k : Inst := { f := 51, fn := Tryz.f51, n := 5, pds := [.rd Yv1], caps := [], res := [Yl4], h := { ca := [(4, 66)], code := .nil } }
noncomputable def i_1u : Inst := { f := 70, fn := Tryz.f70, n := 5, pds := [.rd Yv1], caps := [], res := [Yl4], h := {} }
noncomputable def i_6 : Inst := { f := 52, fn := Tryz.f52, n := 12, pds := [.rd Yv0], caps := [], res := [Yl4], h := { ca := [(7, 65), (11, 65)], code := .nil } }
noncomputable def i_o : Inst := { f := 23, fn := Tryz.f23, n := 5, pds := [.mu true true 9 .str], caps := [], res := [Yl4], h := { ca := [(4, 69)], code := .nil } }
noncomputable def i_1w : Inst := { f := 53, fn := Tryz.f53, n := 75, pds := [.mu true true 9 .str, .rd .str], caps := [], res := [Yl4], h := {} }
noncomputable def FTL : List Inst := [i_0, i_18, i_1b, i_1f, i_1p, i_1s, i_1t, i_1n, i_1m, i_1e, i_1g, i_1o, i_1j, i_1h, i_1i, i_1r, i_17, i_1c, i_19, i_1k, i_1l, i_1d, i_1a, i_1q, i_2, i_b, i_7, i_d, i_1v, i_t, i_j, i_z, i_s, i_10, i_16, i_p, i_u, i_c, i_f, i_v, i_r, i_y, i_m, i_l, i_w, i_q, i_x, i_1x, i_1, i_8, i_11, i_14, i_9, i_3, i_g, i_i, i_h, i_12, i_15, i_4, i_n, i_13, i_e, i_a, i_5, i_k, i_1u, i_6, i_o, i_1w]
noncomputable def FT (j : Nat) : Inst := FTL.getD j i_0
noncomputable def SP (j : Nat) : Option (InVals (FT j) → Option (Tup (outTys (FT j)))) := if h28 : j = 28 then some (h28 ▸ (show InVals (FT 28) → Option (Tup (outTys (FT 28))) from fun v => fieldsF v.1.1)) else if h42 : j = 42 then some (h42 ▸ (show InVals (FT 42) → Option (Tup (outTys (FT 42))) from fun v => readF v.1.1)) else if h47 : j = 47 then some (h47 ▸ (show InVals (FT 47) → Option (Tup (outTys (FT 47))) from fun v => trimF v.1.1 v.1.2.1)) else if h66 : j = 66 then some (h66 ▸ (show InVals (FT 66) → Option (Tup (outTys (FT 66))) from fun v => itoaF v.1.1)) else if h69 : j = 69 then some (h69 ▸ (show InVals (FT 69) → Option (Tup (outTys (FT 69))) from fun v => joinF v.1.1 v.1.2.1)) else none
def lays101_ren : Go.Shelf.Ren := ⟨fun | 101 => 62 | 206 => 83 | 208 => 75 | n => n, fun | 3 => 3 | 4 => 4 | 9 => 9 | n => n, fun n => n⟩
theorem lays101 : Go.Proofs.Lays.n101 Tryz.prog lays101_ren := {
 mixed := by kernel_rfl,
 f101 := Tryz.func62.trans (congrArg some (by kernel_rfl)),
 f206 := Tryz.func83.trans (congrArg some (by kernel_rfl)),
 f208 := Tryz.func75.trans (congrArg some (by kernel_rfl)),
 t3 := Tryz.underlying3,
 a3 := Tryz.isAgg3,
 z3 := Tryz.sizeOf3,
 v3 := Tryz.zeroValue3,
 t4 := Tryz.underlying4,
 a4 := Tryz.isAgg4,
 z4 := Tryz.sizeOf4,
 v4 := Tryz.zeroValue4,
 t9 := Tryz.underlying9,
 a9 := Tryz.isAgg9,
 z9 := Tryz.sizeOf9,
 v9 := Tryz.zeroValue9 }
def lays156_ren : Go.Shelf.Ren := ⟨fun | 156 => 53 | 165 => 71 | 166 => 72 | 169 => 73 | 240 => 79 | 241 => 80 | 276 => 85 | 277 => 86 | n => n, fun | 0 => 0 | 3 => 3 | 4 => 4 | 5 => 5 | 9 => 9 | 20 => 20 | 31 => 29 | 37 => 69 | 70 => 77 | 72 => 79 | 75 => 82 | 76 => 83 | 80 => 65 | 127 => 87 | 164 => 91 | n => n, fun n => n⟩
theorem lays156 : Go.Proofs.Lays.n156 Tryz.prog lays156_ren := {
 mixed := by kernel_rfl,
 f156 := Tryz.func53.trans (congrArg some (by kernel_rfl)),
 f165 := Tryz.func71.trans (congrArg some (by kernel_rfl)),
 f166 := Tryz.func72.trans (congrArg some (by kernel_rfl)),
 f169 := Tryz.func73.trans (congrArg some (by kernel_rfl)),
 f240 := Tryz.func79.trans (congrArg some (by kernel_rfl)),
 f241 := Tryz.func80.trans (congrArg some (by kernel_rfl)),
 f276 := Tryz.func85.trans (congrArg some (by kernel_rfl)),
 f277 := Tryz.func86.trans (congrArg some (by kernel_rfl)),
 t0 := Tryz.underlying0,
 a0 := Tryz.isAgg0,
 z0 := Tryz.sizeOf0,
 v0 := Tryz.zeroValue0,
 t3 := Tryz.underlying3,
 a3 := Tryz.isAgg3,
 z3 := Tryz.sizeOf3,
 v3 := Tryz.zeroValue3,
 t4 := Tryz.underlying4,
 a4 := Tryz.isAgg4,
 z4 := Tryz.sizeOf4,
 v4 := Tryz.zeroValue4,
 t9 := Tryz.underlying9,
 a9 := Tryz.isAgg9,
 z9 := Tryz.sizeOf9,
 v9 := Tryz.zeroValue9,
 t20 := Tryz.underlying20,
 a20 := Tryz.isAgg20,
 z20 := Tryz.sizeOf20,
 v20 := Tryz.zeroValue20,
 t31 := Tryz.underlying29,
 a31 := Tryz.isAgg29,
 z31 := Tryz.sizeOf29,
 v31 := Tryz.zeroValue29,
 t37 := Tryz.underlying69,
 a37 := Tryz.isAgg69,
 z37 := Tryz.sizeOf69,
 v37 := Tryz.zeroValue69,
 t70 := Tryz.underlying77,
 a70 := Tryz.isAgg77,
 z70 := Tryz.sizeOf77,
 v70 := Tryz.zeroValue77,
 t72 := Tryz.underlying79,
 a72 := Tryz.isAgg79,
 z72 := Tryz.sizeOf79,
 v72 := Tryz.zeroValue79,
 t75 := Tryz.underlying82,
 a75 := Tryz.isAgg82,
 z75 := Tryz.sizeOf82,
 v75 := Tryz.zeroValue82,
 t76 := Tryz.underlying83,
 a76 := Tryz.isAgg83,
 z76 := Tryz.sizeOf83,
 v76 := Tryz.zeroValue83,
 t127 := Tryz.underlying87,
 a127 := Tryz.isAgg87,
 z127 := Tryz.sizeOf87,
 v127 := Tryz.zeroValue87,
 t164 := Tryz.underlying91,
 a164 := Tryz.isAgg91,
 z164 := Tryz.sizeOf91,
 v164 := Tryz.zeroValue91 }
theorem lays156X : Go.Proofs.Builder.Extra Tryz.prog lays156_ren := {
 sizeBuilder := by kernel_rfl,
 liesBuilder := by kernel_rfl,
 t5 := Tryz.underlying5,
 a5 := Tryz.isAgg5,
 z5 := Tryz.sizeOf5,
 v5 := Tryz.zeroValue5,
 infoByte := by kernel_rfl,
 cellsByte := by kernel_rfl,
 sizeByte := by kernel_rfl,
 neB5 := by decide }
def lays171_ren : Go.Shelf.Ren := ⟨fun | 129 => 100 | 171 => 70 | 243 => 78 | 246 => 84 | 283 => 92 | 284 => 93 | 285 => 94 | 286 => 95 | 317 => 99 | 318 => 101 | 319 => 102 | 320 => 103 | 337 => 106 | 338 => 107 | n => n, fun | 0 => 0 | 2 => 2 | 3 => 3 | 4 => 4 | 5 => 5 | 9 => 9 | 20 => 20 | 37 => 69 | 46 => 108 | 51 => 115 | 53 => 101 | 171 => 100 | 173 => 104 | 212 => 114 | 213 => 116 | 232 => 123 | 233 => 124 | n => n, fun | 17 => 3 | 18 => 4 | 19 => 5 | n => n⟩
theorem lays171 : Go.Proofs.LaysM.n171 Tryz.prog lays171_ren := {
 mixed := by kernel_rfl,
 f129 := Tryz.func100.trans (congrArg some (by kernel_rfl)),
 f171 := Tryz.func70.trans (congrArg some (by kernel_rfl)),
 f243 := Tryz.func78.trans (congrArg some (by kernel_rfl)),
 f246 := Tryz.func84.trans (congrArg some (by kernel_rfl)),
 f283 := Tryz.func92.trans (congrArg some (by kernel_rfl)),
 f284 := Tryz.func93.trans (congrArg some (by kernel_rfl)),
 f285 := Tryz.func94.trans (congrArg some (by kernel_rfl)),
 f286 := Tryz.func95.trans (congrArg some (by kernel_rfl)),
 f317 := Tryz.func99.trans (congrArg some (by kernel_rfl)),
 f318 := Tryz.func101.trans (congrArg some (by kernel_rfl)),
 f319 := Tryz.func102.trans (congrArg some (by kernel_rfl)),
 f320 := Tryz.func103.trans (congrArg some (by kernel_rfl)),
 f337 := Tryz.func106.trans (congrArg some (by kernel_rfl)),
 f338 := Tryz.func107.trans (congrArg some (by kernel_rfl)),
 t0 := Tryz.underlying0,
 a0 := Tryz.isAgg0,
 z0 := Tryz.sizeOf0,
 v0 := Tryz.zeroValue0,
 t2 := Tryz.underlying2,
 a2 := Tryz.isAgg2,
 z2 := Tryz.sizeOf2,
 v2 := Tryz.zeroValue2,
 t3 := Tryz.underlying3,
 a3 := Tryz.isAgg3,
 z3 := Tryz.sizeOf3,
 v3 := Tryz.zeroValue3,
 t4 := Tryz.underlying4,
 a4 := Tryz.isAgg4,
 z4 := Tryz.sizeOf4,
 v4 := Tryz.zeroValue4,
 t5 := Tryz.underlying5,
 a5 := Tryz.isAgg5,
 z5 := Tryz.sizeOf5,
 v5 := Tryz.zeroValue5,
 t9 := Tryz.underlying9,
 a9 := Tryz.isAgg9,
 z9 := Tryz.sizeOf9,
 v9 := Tryz.zeroValue9,
 t20 := Tryz.underlying20,
 a20 := Tryz.isAgg20,
 z20 := Tryz.sizeOf20,
 v20 := Tryz.zeroValue20,
 t37 := Tryz.underlying69,
 a37 := Tryz.isAgg69,
 z37 := Tryz.sizeOf69,
 v37 := Tryz.zeroValue69,
 t46 := Tryz.underlying108,
 a46 := Tryz.isAgg108,
 z46 := Tryz.sizeOf108,
 v46 := Tryz.zeroValue108,
 t51 := Tryz.underlying115,
 a51 := Tryz.isAgg115,
 z51 := Tryz.sizeOf115,
 v51 := Tryz.zeroValue115,
 t53 := Tryz.underlying101,
 a53 := Tryz.isAgg101,
 z53 := Tryz.sizeOf101,
 v53 := Tryz.zeroValue101,
 t171 := Tryz.underlying100,
 a171 := Tryz.isAgg100,
 z171 := Tryz.sizeOf100,
 v171 := Tryz.zeroValue100,
 t173 := Tryz.underlying104,
 a173 := Tryz.isAgg104,
 z173 := Tryz.sizeOf104,
 v173 := Tryz.zeroValue104,
 t212 := Tryz.underlying114,
 a212 := Tryz.isAgg114,
 z212 := Tryz.sizeOf114,
 v212 := Tryz.zeroValue114,
 t213 := Tryz.underlying116,
 a213 := Tryz.isAgg116,
 z213 := Tryz.sizeOf116,
 t232 := Tryz.underlying123,
 a232 := Tryz.isAgg123,
 z232 := Tryz.sizeOf123,
 v232 := Tryz.zeroValue123,
 t233 := Tryz.underlying124,
 a233 := Tryz.isAgg124,
 z233 := Tryz.sizeOf124,
 v233 := Tryz.zeroValue124,
 g17 := by kernel_rfl,
 g18 := by kernel_rfl,
 g19 := by kernel_rfl,
 i0 := by kernel_rfl,
 i2 := by kernel_rfl,
 i3 := by kernel_rfl,
 i4 := by kernel_rfl,
 i5 := by kernel_rfl,
 i9 := by kernel_rfl,
 i20 := by kernel_rfl,
 i37 := by kernel_rfl,
 i46 := by kernel_rfl,
 i51 := by kernel_rfl,
 i53 := by kernel_rfl,
 i171 := by kernel_rfl,
 i173 := by kernel_rfl,
 i212 := by kernel_rfl,
 i232 := by kernel_rfl,
 i233 := by kernel_rfl,
 m17 := by kernel_rfl,
 m18 := by kernel_rfl,
 m19 := by kernel_rfl }
def lays172_ren : Go.Shelf.Ren := ⟨fun | 129 => 100 | 171 => 70 | 172 => 74 | 205 => 98 | 243 => 78 | 244 => 81 | 245 => 82 | 246 => 84 | 247 => 87 | 279 => 88 | 280 => 89 | 281 => 90 | 282 => 91 | 283 => 92 | 284 => 93 | 285 => 94 | 286 => 95 | 287 => 96 | 316 => 97 | 317 => 99 | 318 => 101 | 319 => 102 | 320 => 103 | 321 => 104 | 322 => 105 | 337 => 106 | 338 => 107 | n => n, fun | 0 => 0 | 2 => 2 | 3 => 3 | 4 => 4 | 5 => 5 | 9 => 9 | 20 => 20 | 21 => 21 | 37 => 69 | 46 => 108 | 51 => 115 | 53 => 101 | 75 => 82 | 76 => 83 | 80 => 65 | 85 => 95 | 127 => 87 | 143 => 119 | 145 => 121 | 167 => 94 | 168 => 97 | 171 => 100 | 173 => 104 | 175 => 106 | 210 => 111 | 212 => 114 | 213 => 116 | 232 => 123 | 233 => 124 | n => n, fun | 15 => 1 | 16 => 2 | 17 => 3 | 18 => 4 | 19 => 5 | n => n⟩
theorem lays172 : Go.Proofs.LaysC.n172 Tryz.prog lays172_ren := {
 mixed := by kernel_rfl,
 f129 := Tryz.func100.trans (congrArg some (by kernel_rfl)),
 f171 := Tryz.func70.trans (congrArg some (by kernel_rfl)),
 f172 := Tryz.func74.trans (congrArg some (by kernel_rfl)),
 f205 := Tryz.func98.trans (congrArg some (by kernel_rfl)),
 f243 := Tryz.func78.trans (congrArg some (by kernel_rfl)),
 f244 := Tryz.func81.trans (congrArg some (by kernel_rfl)),
 f245 := Tryz.func82.trans (congrArg some (by kernel_rfl)),
 f246 := Tryz.func84.trans (congrArg some (by kernel_rfl)),
 f247 := Tryz.func87.trans (congrArg some (by kernel_rfl)),
 f279 := Tryz.func88.trans (congrArg some (by kernel_rfl)),
 f280 := Tryz.func89.trans (congrArg some (by kernel_rfl)),
 f281 := Tryz.func90.trans (congrArg some (by kernel_rfl)),
 f282 := Tryz.func91.trans (congrArg some (by kernel_rfl)),
 f283 := Tryz.func92.trans (congrArg some (by kernel_rfl)),
 f284 := Tryz.func93.trans (congrArg some (by kernel_rfl)),
 f285 := Tryz.func94.trans (congrArg some (by kernel_rfl)),
 f286 := Tryz.func95.trans (congrArg some (by kernel_rfl)),
 f287 := Tryz.func96.trans (congrArg some (by kernel_rfl)),
 f316 := Tryz.func97.trans (congrArg some (by kernel_rfl)),
 f317 := Tryz.func99.trans (congrArg some (by kernel_rfl)),
 f318 := Tryz.func101.trans (congrArg some (by kernel_rfl)),
 f319 := Tryz.func102.trans (congrArg some (by kernel_rfl)),
 f320 := Tryz.func103.trans (congrArg some (by kernel_rfl)),
 f321 := Tryz.func104.trans (congrArg some (by kernel_rfl)),
 f322 := Tryz.func105.trans (congrArg some (by kernel_rfl)),
 f337 := Tryz.func106.trans (congrArg some (by kernel_rfl)),
 f338 := Tryz.func107.trans (congrArg some (by kernel_rfl)),
 t0 := Tryz.underlying0,
 a0 := Tryz.isAgg0,
 z0 := Tryz.sizeOf0,
 v0 := Tryz.zeroValue0,
 t2 := Tryz.underlying2,
 a2 := Tryz.isAgg2,
 z2 := Tryz.sizeOf2,
 v2 := Tryz.zeroValue2,
 t3 := Tryz.underlying3,
 a3 := Tryz.isAgg3,
 z3 := Tryz.sizeOf3,
 v3 := Tryz.zeroValue3,
 t4 := Tryz.underlying4,
 a4 := Tryz.isAgg4,
 z4 := Tryz.sizeOf4,
 v4 := Tryz.zeroValue4,
 t5 := Tryz.underlying5,
 a5 := Tryz.isAgg5,
 z5 := Tryz.sizeOf5,
 v5 := Tryz.zeroValue5,
 t9 := Tryz.underlying9,
 a9 := Tryz.isAgg9,
 z9 := Tryz.sizeOf9,
 v9 := Tryz.zeroValue9,
 t20 := Tryz.underlying20,
 a20 := Tryz.isAgg20,
 z20 := Tryz.sizeOf20,
 v20 := Tryz.zeroValue20,
 t21 := Tryz.underlying21,
 a21 := Tryz.isAgg21,
 z21 := Tryz.sizeOf21,
 v21 := Tryz.zeroValue21,
 t37 := Tryz.underlying69,
 a37 := Tryz.isAgg69,
 z37 := Tryz.sizeOf69,
 v37 := Tryz.zeroValue69,
 t46 := Tryz.underlying108,
 a46 := Tryz.isAgg108,
 z46 := Tryz.sizeOf108,
 v46 := Tryz.zeroValue108,
 t51 := Tryz.underlying115,
 a51 := Tryz.isAgg115,
 z51 := Tryz.sizeOf115,
 v51 := Tryz.zeroValue115,
 t53 := Tryz.underlying101,
 a53 := Tryz.isAgg101,
 z53 := Tryz.sizeOf101,
 v53 := Tryz.zeroValue101,
 t75 := Tryz.underlying82,
 a75 := Tryz.isAgg82,
 z75 := Tryz.sizeOf82,
 v75 := Tryz.zeroValue82,
 t76 := Tryz.underlying83,
 a76 := Tryz.isAgg83,
 z76 := Tryz.sizeOf83,
 v76 := Tryz.zeroValue83,
 t85 := Tryz.underlying95,
 a85 := Tryz.isAgg95,
 z85 := Tryz.sizeOf95,
 v85 := Tryz.zeroValue95,
 t127 := Tryz.underlying87,
 a127 := Tryz.isAgg87,
 z127 := Tryz.sizeOf87,
 v127 := Tryz.zeroValue87,
 t143 := Tryz.underlying119,
 a143 := Tryz.isAgg119,
 z143 := Tryz.sizeOf119,
 v143 := Tryz.zeroValue119,
 t145 := Tryz.underlying121,
 a145 := Tryz.isAgg121,
 z145 := Tryz.sizeOf121,
 v145 := Tryz.zeroValue121,
 t167 := Tryz.underlying94,
 a167 := Tryz.isAgg94,
 z167 := Tryz.sizeOf94,
 v167 := Tryz.zeroValue94,
 t168 := Tryz.underlying97,
 a168 := Tryz.isAgg97,
 z168 := Tryz.sizeOf97,
 v168 := Tryz.zeroValue97,
 t171 := Tryz.underlying100,
 a171 := Tryz.isAgg100,
 z171 := Tryz.sizeOf100,
 v171 := Tryz.zeroValue100,
 t173 := Tryz.underlying104,
 a173 := Tryz.isAgg104,
 z173 := Tryz.sizeOf104,
 v173 := Tryz.zeroValue104,
 t175 := Tryz.underlying106,
 a175 := Tryz.isAgg106,
 z175 := Tryz.sizeOf106,
 v175 := Tryz.zeroValue106,
 t210 := Tryz.underlying111,
 a210 := Tryz.isAgg111,
 z210 := Tryz.sizeOf111,
 v210 := Tryz.zeroValue111,
 t212 := Tryz.underlying114,
 a212 := Tryz.isAgg114,
 z212 := Tryz.sizeOf114,
 v212 := Tryz.zeroValue114,
 t213 := Tryz.underlying116,
 a213 := Tryz.isAgg116,
 z213 := Tryz.sizeOf116,
 t232 := Tryz.underlying123,
 a232 := Tryz.isAgg123,
 z232 := Tryz.sizeOf123,
 v232 := Tryz.zeroValue123,
 t233 := Tryz.underlying124,
 a233 := Tryz.isAgg124,
 z233 := Tryz.sizeOf124,
 v233 := Tryz.zeroValue124,
 g15 := by kernel_rfl,
 g16 := by kernel_rfl,
 g17 := by kernel_rfl,
 g18 := by kernel_rfl,
 g19 := by kernel_rfl,
 t80 := Tryz.underlying65,
 a80 := Tryz.isAgg65,
 z80 := Tryz.sizeOf65,
 v80 := Tryz.zeroValue65,
 i0 := by kernel_rfl,
 i2 := by kernel_rfl,
 i3 := by kernel_rfl,
 i4 := by kernel_rfl,
 i5 := by kernel_rfl,
 i9 := by kernel_rfl,
 i20 := by kernel_rfl,
 i21 := by kernel_rfl,
 i37 := by kernel_rfl,
 i46 := by kernel_rfl,
 i51 := by kernel_rfl,
 i53 := by kernel_rfl,
 i75 := by kernel_rfl,
 i76 := by kernel_rfl,
 i80 := by kernel_rfl,
 i85 := by kernel_rfl,
 i127 := by kernel_rfl,
 i143 := by kernel_rfl,
 i145 := by kernel_rfl,
 i167 := by kernel_rfl,
 i168 := by kernel_rfl,
 i171 := by kernel_rfl,
 i173 := by kernel_rfl,
 i175 := by kernel_rfl,
 i210 := by kernel_rfl,
 i212 := by kernel_rfl,
 i232 := by kernel_rfl,
 i233 := by kernel_rfl,
 m15 := by kernel_rfl,
 m16 := by kernel_rfl,
 m17 := by kernel_rfl,
 m18 := by kernel_rfl,
 m19 := by kernel_rfl,
 c0 := by kernel_rfl,
 c2 := by kernel_rfl,
 c3 := by kernel_rfl,
 c4 := by kernel_rfl,
 c5 := by kernel_rfl,
 c9 := by kernel_rfl,
 c20 := by kernel_rfl,
 c21 := by kernel_rfl,
 c37 := by kernel_rfl,
 c46 := by kernel_rfl,
 c51 := by kernel_rfl,
 c53 := by kernel_rfl,
 c75 := by kernel_rfl,
 c76 := by kernel_rfl,
 c80 := by kernel_rfl,
 c85 := by kernel_rfl,
 c127 := by kernel_rfl,
 c143 := by kernel_rfl,
 c145 := by kernel_rfl,
 c167 := by kernel_rfl,
 c168 := by kernel_rfl,
 c171 := by kernel_rfl,
 c173 := by kernel_rfl,
 c175 := by kernel_rfl,
 c210 := by kernel_rfl,
 c212 := by kernel_rfl,
 c213 := by kernel_rfl,
 c232 := by kernel_rfl,
 c233 := by kernel_rfl }
def lays229_ren : Go.Shelf.Ren := ⟨fun | 229 => 36 | n => n, fun | 0 => 0 | 3 => 3 | 4 => 4 | 9 => 9 | 21 => 21 | 31 => 29 | 40 => 58 | 152 => 70 | 154 => 72 | n => n, fun n => n⟩
theorem lays229 : Go.Proofs.Lays.n229 Tryz.prog lays229_ren := {
 mixed := by kernel_rfl,
 f229 := Tryz.func36.trans (congrArg some (by kernel_rfl)),
 t0 := Tryz.underlying0,
 a0 := Tryz.isAgg0,
 z0 := Tryz.sizeOf0,
 v0 := Tryz.zeroValue0,
 t3 := Tryz.underlying3,
 a3 := Tryz.isAgg3,
 z3 := Tryz.sizeOf3,
 v3 := Tryz.zeroValue3,
 t4 := Tryz.underlying4,
 a4 := Tryz.isAgg4,
 z4 := Tryz.sizeOf4,
 v4 := Tryz.zeroValue4,
 t9 := Tryz.underlying9,
 a9 := Tryz.isAgg9,
 z9 := Tryz.sizeOf9,
 v9 := Tryz.zeroValue9,
 t21 := Tryz.underlying21,
 a21 := Tryz.isAgg21,
 z21 := Tryz.sizeOf21,
 v21 := Tryz.zeroValue21,
 t31 := Tryz.underlying29,
 a31 := Tryz.isAgg29,
 z31 := Tryz.sizeOf29,
 v31 := Tryz.zeroValue29,
 t40 := Tryz.underlying58,
 a40 := Tryz.isAgg58,
 z40 := Tryz.sizeOf58,
 v40 := Tryz.zeroValue58,
 t152 := Tryz.underlying70,
 a152 := Tryz.isAgg70,
 z152 := Tryz.sizeOf70,
 v152 := Tryz.zeroValue70,
 t154 := Tryz.underlying72,
 a154 := Tryz.isAgg72,
 z154 := Tryz.sizeOf72,
 v154 := Tryz.zeroValue72 }
set_option maxRecDepth 100000 in
theorem sep_gives (w : World) (x : Nat) (hx : x ≤ 1114111) : FnGives Tryz.prog 37 #[] #[encR x] (.bool (sepP x)) w := by
 unfold FnGives encR
 go_enter Tryz.func37, Tryz.ntmps37
 go_wp2
 ·rename_i h
  have hx2 : x = 32 := by omega
  subst hx2
  go_ret
  exact ⟨rfl, 0, rfl⟩
 ·go_ret
  refine ⟨?_, 0, rfl⟩
  unfold sepP
  rw [← beq_nat x 32, ← beq_nat x 10]
  rfl
open Go.RowKit Go.Shelf in
set_option maxRecDepth 100000 in
theorem num_calls {n : Int} (h0 : -9223372036854775808 ≤ n) (h1 : n ≤ 9223372036854775807) (w : World) (hT : Lib.TabIs Tryz.prog w "internal/strconv.uint64pow10" .u64 Lib.pow10Tab) :
  Calls Tryz.prog 51 #[.int .i64 n] w fun e w' => e = .returned (.string ⟨(Lib.itoa n).toArray⟩) ∧ Below w.heap.size w w' := by
 go_enter Tryz.func51, Tryz.ntmps51
 go_wp2_with (go_at_call 70; refine (Any.strconv_Itoa lays171 n h0 h1 _ hT).mono ?_; rintro e w' ⟨rfl, k, os, rfl⟩)
 go_ret
 exact ⟨rfl, below_grow _ _ _⟩
open Go.RowKit Go.Shelf in
set_option maxRecDepth 100000 in
theorem in_calls (x lo hi : Int) (w : World) : Calls Tryz.prog 46 #[.int .i64 x, .int .i64 lo, .int .i64 hi] w fun e w' => e = .returned (.bool (decide (lo ≤ x) && decide (x ≤ hi))) ∧ Below w.heap.size w w' := by
 go_enter Tryz.func46, Tryz.ntmps46
 go_wp2
 ·rename_i h
  go_ret
  exact ⟨congrArg (fun b => Ending.returned (.bool b)) (by rw [decide_eq_true h, Bool.true_and]), Below.refl _ _⟩
 ·rename_i h
  go_ret
  exact ⟨congrArg (fun b => Ending.returned (.bool b)) (by rw [decide_eq_false (show ¬ lo ≤ x by omega), Bool.false_and]), Below.refl _ _⟩
open Go.RowKit Go.Shelf in
set_option maxRecDepth 100000 in
theorem isNum_calls (x : Int) (w : World) : Calls Tryz.prog 66 #[.int .i64 x] w fun e w' => e = .returned (.bool (decide (-1000000 ≤ x) && decide (x ≤ 1000000))) ∧ Below w.heap.size w w' := by
 go_enter Tryz.func66, Tryz.ntmps66
 go_wp2_with (go_at_call 46; refine (in_calls _ _ _ _).mono ?_; rintro e w' ⟨rfl, hb⟩)
 go_ret
 exact ⟨rfl, hb⟩
open Go.RowKit Go.Shelf in
set_option maxRecDepth 100000 in
theorem read_calls (s : ByteArray) (w : World) (Z : Nat → Prop) (hs : s.size ≤ 281474976710656) (hg : Gl Tryz.prog w Z) (hz : ∀ b, Z b → b < w.heap.size) :
  Calls Tryz.prog 60 #[.string s] w fun e w' => e = .returned (.tuple #[.int .i64 (readV s).1, .bool (readV s).2]) ∧ Below w.heap.size w w' := by
 rcases h : Lib.atoiAll s.data.toList with v | _ | _
 ·
  obtain ⟨v0, v1⟩ := atoi_range h
  have hr : readV s = if (⟨(Lib.itoa v).toArray⟩ : ByteArray) = s ∧ -1000000 ≤ v ∧ v ≤ 1000000 then (v, true) else (0, false) := by
   unfold readV readM
   rw [h]
   simp only
   by_cases hc : (⟨(Lib.itoa v).toArray⟩ : ByteArray) = s ∧ -1000000 ≤ v ∧ v ≤ 1000000
   ·rw [if_pos hc, if_pos hc]
   ·rw [if_neg hc, if_neg hc]
  go_enter Tryz.func60, Tryz.ntmps60
  go_wp2_with (go_at_call 74; refine (Any.strconv_Atoi_ok lays172 s (by omega) v h _).mono ?_; rintro e w' ⟨rfl, hw⟩)
  have hb : Below w.heap.size w w' := by
   rcases hw with rfl | ⟨t, rfl⟩
   ·exact Below.refl _ _
   ·exact Lib.bytesWorld_below _ _ _
  have hT := gl_pow (hg.mono (fun b hb' => ⟨hb', hb.block b (hz b hb')⟩)) (by kernel_rfl)
  go_wp2_with (go_at_call 51; refine (num_calls v0 v1 _ hT).mono ?_; rintro e w2 ⟨rfl, hb2⟩)
  ·have he' : (⟨(Lib.itoa v).toArray⟩ : ByteArray) = s := by
    have he := ‹Lib.itoa v = s.toList›
    cases s with
    | mk d =>
     rw [ByteArray.toList_eq] at he
     rw [he]
   go_wp2_with (go_at_call 66; refine (isNum_calls _ _).mono ?_; rintro e w3 ⟨rfl, hb3⟩)
   ·rename_i hor
    go_ret2
    rw [hr, if_neg (fun h' => by
     obtain ⟨-, h2, h3⟩ := h'
     rw [decide_eq_true h2, decide_eq_true h3] at hor
     cases hor with
     | inl k => cases k
     | inr k => cases k)]
    exact ⟨rfl, hb.trans ((hb2.mono hb.size).trans (hb3.mono (Nat.le_trans hb.size hb2.size)))⟩
   ·rename_i hor
    go_ret2
    rw [hr, if_pos ⟨he', by have := hor.1; rwa [Bool.not_eq_false', decide_eq_true_eq] at this, by have := hor.2; rwa [Bool.not_eq_false', decide_eq_true_eq] at this⟩]
    exact ⟨rfl, hb.trans ((hb2.mono hb.size).trans (hb3.mono (Nat.le_trans hb.size hb2.size)))⟩
  ·rename_i hne
   go_ret2
   rw [hr, if_neg (fun h' => hne ?_)]
   ·exact ⟨rfl, hb.trans (hb2.mono hb.size)⟩
   ·rw [← h'.1, ByteArray.toList_mk]
 ·
  obtain ⟨tp, p, hv⟩ := gl_syn hg (by kernel_rfl)
  have hr : readV s = (0, false) := by unfold readV readM; rw [h]
  go_enter Tryz.func60, Tryz.ntmps60
  go_wp2_with (go_at_call 74; refine (Any.strconv_Atoi_syntax_var lays172 s hs h tp p _ hv).mono ?_; rintro e w' ⟨N, rfl, -, -, hb⟩)
  go_wp2
  go_ret2
  rw [hr]
  exact ⟨rfl, hb⟩
 ·
  obtain ⟨tp, p, hv⟩ := gl_ran hg (by kernel_rfl)
  have hr : readV s = (0, false) := by unfold readV readM; rw [h]
  go_enter Tryz.func60, Tryz.ntmps60
  go_wp2_with (go_at_call 74; refine (Any.strconv_Atoi_range_var lays172 s hs h tp p _ hv).mono ?_; rintro e w' ⟨N, rfl, -, -, hb⟩)
  go_wp2
  go_ret2
  rw [hr]
  exact ⟨rfl, hb⟩
theorem sp_ok : ∀ j f, SP j = some f → ∀ v r, f v = some r → RetI Tryz.prog (FT j) v r := by
 intro j f hf v r hv
 by_cases h28 : j = 28
 ·subst h28
  have hf2 : some (show InVals (FT 28) → Option (Tup (outTys (FT 28))) from fun v => fieldsF v.1.1) = some f := hf
  have hf3 := Option.some.inj hf2
  subst hf3
  exact retI_fields lays229 (by kernel_rfl) (by decide) (by kernel_rfl) sep_gives (by kernel_rfl) (by kernel_rfl) (by kernel_rfl) hv
 by_cases h42 : j = 42
 ·subst h42
  have hf2 : some (show InVals (FT 42) → Option (Tup (outTys (FT 42))) from fun v => readF v.1.1) = some f := hf
  have hf3 := Option.some.inj hf2
  subst hf3
  exact retI_read (by kernel_rfl) (by decide) read_calls hv
 by_cases h47 : j = 47
 ·subst h47
  have hf2 : some (show InVals (FT 47) → Option (Tup (outTys (FT 47))) from fun v => trimF v.1.1 v.1.2.1) = some f := hf
  have hf3 := Option.some.inj hf2
  subst hf3
  exact retI_trim lays101 (by kernel_rfl) (by decide) hv
 by_cases h66 : j = 66
 ·subst h66
  have hf2 : some (show InVals (FT 66) → Option (Tup (outTys (FT 66))) from fun v => itoaF v.1.1) = some f := hf
  have hf3 := Option.some.inj hf2
  subst hf3
  exact retI_itoa lays171 (by kernel_rfl) (by decide) (by kernel_rfl) hv
 by_cases h69 : j = 69
 ·subst h69
  have hf2 : some (show InVals (FT 69) → Option (Tup (outTys (FT 69))) from fun v => joinF v.1.1 v.1.2.1) = some f := hf
  have hf3 := Option.some.inj hf2
  subst hf3
  exact retI_join lays156 lays156X (by kernel_rfl) (by decide) hv
 unfold SP at hf
 rw [dif_neg h28, dif_neg h42, dif_neg h47, dif_neg h66, dif_neg h69] at hf
 cases hf
theorem ft_ok : FTok Tryz.prog tt FT SP := FTok.of tt_ok (by kernel_rfl) ⟨Tryz.func4, Tryz.func4, Tryz.func7, Tryz.func9, Tryz.func13, Tryz.func14, Tryz.func25, Tryz.func26, Tryz.func24, Tryz.func27, Tryz.func28, Tryz.func31, Tryz.func29, Tryz.func54, Tryz.func34, Tryz.func56, Tryz.func30, Tryz.func15, Tryz.func16, Tryz.func32, Tryz.func55, Tryz.func33, Tryz.func10, Tryz.func17, Tryz.func35, Tryz.func8, Tryz.func6, Tryz.func11, Tryz.func18, Tryz.func36, Tryz.func19, Tryz.func39, Tryz.func38, Tryz.func40, Tryz.func57, Tryz.func58, Tryz.func40, Tryz.func41, Tryz.func42, Tryz.func46, Tryz.func43, Tryz.func40, Tryz.func59, Tryz.func60, Tryz.func44, Tryz.func45, Tryz.func40, Tryz.func61, Tryz.func62, Tryz.func20, Tryz.func21, Tryz.func47, Tryz.func63, Tryz.func48, Tryz.func49, Tryz.func64, Tryz.func65, Tryz.func66, Tryz.func67, Tryz.func76, Tryz.func68, Tryz.func69, Tryz.func77, Tryz.func50, Tryz.func12, Tryz.func22, Tryz.func51, Tryz.func70, Tryz.func52, Tryz.func23, Tryz.func53, trivial⟩ (by kernel_rfl) (sp_ok)
noncomputable def F_1g (a0 : ByteArray) : Option Bool := callL tt FT SP 0 (show InVals (FT 0) from ((a0, ()), (())))
noncomputable def F_1n (a0 : ByteArray) : Option Bool := callL tt FT SP 1 (show InVals (FT 1) from ((a0, ()), (())))
noncomputable def F_1p (a0 : ByteArray) : Option Yt11 := callL tt FT SP 2 (show InVals (FT 2) from ((a0, ()), (())))
noncomputable def F_1r (a0 : ByteArray) : Option Yt4 := callL tt FT SP 3 (show InVals (FT 3) from ((a0, ()), (())))
noncomputable def F_1t (a0x0 : List ByteArray) (a0x1 : Int) (a0x2 : Bool) : Option (SNode × Yt4 × Int × Bool) := callL tt FT SP 4 (show InVals (FT 4) from (((a0x0, a0x1, a0x2, ()), ()), (())))
noncomputable def F_x : Option Yt4 := callL tt FT SP 5 (show InVals (FT 5) from ((()), (())))
noncomputable def F_7 (a0x0 : List ByteArray) (a0x1 : Int) (a0x2 : Bool) : Option Yt12 := callL tt FT SP 6 (show InVals (FT 6) from (((a0x0, a0x1, a0x2, ()), ()), (())))
noncomputable def F_a (a0 : List ByteArray) (a1 : ByteArray) : Option Int := callL tt FT SP 7 (show InVals (FT 7) from ((a0, a1, ()), (())))
noncomputable def F_6 (a0x0 : List ByteArray) (a0x1 : Int) (a0x2 : Bool) : Option (Yt4 × Int × Bool) := callL tt FT SP 8 (show InVals (FT 8) from (((a0x0, a0x1, a0x2, ()), ()), (())))
noncomputable def F_s (a0 : ByteArray) : Option Bool := callL tt FT SP 9 (show InVals (FT 9) from ((a0, ()), (())))
noncomputable def F_0 (a0 : Int) (a1 : Int) (a2 : Int) : Option Bool := callL tt FT SP 10 (show InVals (FT 10) from ((a0, a1, a2, ()), (())))
noncomputable def F_2 (a0x0 : List ByteArray) (a0x1 : Int) (a0x2 : Bool) (a1 : Bool) : Option Yt8 := callL tt FT SP 11 (show InVals (FT 11) from (((a0x0, a0x1, a0x2, ()), a1, ()), (())))
noncomputable def F_1s (a0 : ByteArray) : Option Yt14 := callL tt FT SP 12 (show InVals (FT 12) from ((a0, ()), (())))
noncomputable def F_1 (a0 : Int) : Option ByteArray := callL tt FT SP 13 (show InVals (FT 13) from ((a0, ()), (())))
noncomputable def F_t (a0 : Int) : Option Bool := callL tt FT SP 14 (show InVals (FT 14) from ((a0, ()), (())))
noncomputable def F_w : Option Yt4 := callL tt FT SP 15 (show InVals (FT 15) from ((()), (())))
noncomputable def F_q (a0 : Int) : Option Int := callL tt FT SP 16 (show InVals (FT 16) from ((a0, ()), (())))
noncomputable def F_r (a0 : List SNode) : Option Bool := callL tt FT SP 17 (show InVals (FT 17) from ((a0, ()), (())))
noncomputable def F_e (a0 : SNode) : Option Bool := callL tt FT SP 18 (show InVals (FT 18) from ((a0, ()), (())))
noncomputable def F_9 (a0 : Int) : Option Bool := callL tt FT SP 19 (show InVals (FT 19) from ((a0, ()), (())))
noncomputable def F_u (a0 : List SNode) (a1 : Int) (a2 : Int) : Option (Int × Int) := callL tt FT SP 20 (show InVals (FT 20) from ((a0, a1, a2, ()), (())))
noncomputable def F_1q (a0 : List SNode) : Option ByteArray := callL tt FT SP 21 (show InVals (FT 21) from ((a0, ()), (())))
noncomputable def F_1o (a0 : SNode) : Option ByteArray := callL tt FT SP 22 (show InVals (FT 22) from ((a0, ()), (())))
noncomputable def F_v (a0 : SNode) : Option ByteArray := callL tt FT SP 23 (show InVals (FT 23) from ((a0, ()), (())))
noncomputable def F_y (a0 : ByteArray) : Option Bool := callL tt FT SP 24 (show InVals (FT 24) from ((a0, ()), (())))
noncomputable def F_14 (a0 : ByteArray) : Option (ByteArray × Bool) := callL tt FT SP 25 (show InVals (FT 25) from ((a0, ()), (())))
noncomputable def F_11 (a0 : ByteArray) : Option Yt11 := callL tt FT SP 26 (show InVals (FT 26) from ((a0, ()), (())))
noncomputable def F_15 (a0 : ByteArray) : Option Yt4 := callL tt FT SP 27 (show InVals (FT 27) from ((a0, ()), (())))
noncomputable def F_1v (a0 : ByteArray) : Option Yt4 := callL tt FT SP 28 (show InVals (FT 28) from ((a0, (()), ()), (())))
noncomputable def F_1c (a0x0 : List ByteArray) (a0x1 : Int) (a0x2 : Int) : Option (SNode × Yt4 × Int × Int) := callL tt FT SP 29 (show InVals (FT 29) from (((a0x0, a0x1, a0x2, ()), ()), (())))
noncomputable def F_l : Option Yt4 := callL tt FT SP 30 (show InVals (FT 30) from ((()), (())))
noncomputable def F_d (a0x0 : List ByteArray) (a0x1 : Int) (a0x2 : Int) (a1 : List ByteArray) : Option (Int × Yt4 × Int × Int) := callL tt FT SP 31 (show InVals (FT 31) from (((a0x0, a0x1, a0x2, ()), a1, ()), (())))
noncomputable def F_1b (a0x0 : List ByteArray) (a0x1 : Int) (a0x2 : Int) (a1x0x0 : List ByteArray) (a1x1x0 : Int) : Option (Yt4 × Int × Int × Yt4 × Int) := callL tt FT SP 32 (show InVals (FT 32) from (((a0x0, a0x1, a0x2, ()), ((a1x0x0, ()), (a1x1x0, ()), ()), ()), (())))
noncomputable def F_1f (a0 : ByteArray) (c0x0 : List ByteArray) (c1x0 : Int) : Option (Bool × Yt4 × Int) := callL tt FT SP 33 (show InVals (FT 33) from ((a0, ()), ((c0x0, ()), (c1x0, ()), ())))
noncomputable def F_1m (a0 : List ByteArray) (a1 : ByteArray) : Option Int := callL tt FT SP 34 (show InVals (FT 34) from ((a0, a1, ()), (())))
noncomputable def F_18 (a0x0 : List ByteArray) (a0x1 : Int) (a0x2 : Int) (a1x0x0 : Int) (a1x0x1 : ByteArray) (a1x0x2 : Int) (a1x0x3 : Int) (a1x0x4 : Int) (a1x0x5 : Bool) (a1x0x6 : List Int) : Option (Yt4 × Int × Int × Int × ByteArray × Int × Int × Int × Bool × (List Int)) := callL tt FT SP 35 (show InVals (FT 35) from (((a0x0, a0x1, a0x2, ()), ((a1x0x0, a1x0x1, a1x0x2, a1x0x3, a1x0x4, a1x0x5, a1x0x6, ()), ()), ()), (())))
noncomputable def F_1d (a0 : ByteArray) (c0x0 : Int) (c0x1 : ByteArray) (c0x2 : Int) (c0x3 : Int) (c0x4 : Int) (c0x5 : Bool) (c0x6 : List Int) : Option (Bool × Int × ByteArray × Int × Int × Int × Bool × (List Int)) := callL tt FT SP 36 (show InVals (FT 36) from ((a0, ()), ((c0x0, c0x1, c0x2, c0x3, c0x4, c0x5, c0x6, ()), ())))
noncomputable def F_i (a0 : ByteArray) : Option Bool := callL tt FT SP 37 (show InVals (FT 37) from ((a0, ()), (())))
noncomputable def F_3 (a0 : Int) (a1 : Int) (a2 : Int) : Option Bool := callL tt FT SP 38 (show InVals (FT 38) from ((a0, a1, a2, ()), (())))
noncomputable def F_5 (a0x0 : List ByteArray) (a0x1 : Int) (a0x2 : Int) (a1 : Int) (a2 : Int) : Option (Int × Yt4 × Int × Int) := callL tt FT SP 39 (show InVals (FT 39) from (((a0x0, a0x1, a0x2, ()), a1, a2, ()), (())))
noncomputable def F_1a (a0x0 : List ByteArray) (a0x1 : Int) (a0x2 : Int) (a1x0x0 : Int) (a1x1x0 : Int) (a1x2x0 : Int) : Option (Yt4 × Int × Int × Int × Int × Int) := callL tt FT SP 40 (show InVals (FT 40) from (((a0x0, a0x1, a0x2, ()), ((a1x0x0, ()), (a1x1x0, ()), (a1x2x0, ()), ()), ()), (())))
noncomputable def F_1e (a0 : ByteArray) (c0x0 : Int) (c1x0 : Int) (c2x0 : Int) : Option (Bool × Int × Int × Int) := callL tt FT SP 41 (show InVals (FT 41) from ((a0, ()), ((c0x0, ()), (c1x0, ()), (c2x0, ()), ())))
noncomputable def F_n (a0 : ByteArray) : Option Yt14 := callL tt FT SP 42 (show InVals (FT 42) from ((a0, ()), (())))
noncomputable def F_m : Option Yt4 := callL tt FT SP 43 (show InVals (FT 43) from ((()), (())))
noncomputable def F_c (a0x0 : List ByteArray) (a0x1 : Int) (a0x2 : Int) : Option (Int × Bool × Yt4 × Int × Int) := callL tt FT SP 44 (show InVals (FT 44) from (((a0x0, a0x1, a0x2, ()), ()), (())))
noncomputable def F_19 (a0x0 : List ByteArray) (a0x1 : Int) (a0x2 : Int) (a1x0x0 : Int) (a1x1x0 : Bool) : Option (Yt4 × Int × Int × Int × Bool) := callL tt FT SP 45 (show InVals (FT 45) from (((a0x0, a0x1, a0x2, ()), ((a1x0x0, ()), (a1x1x0, ()), ()), ()), (())))
noncomputable def F_p (a0 : ByteArray) (c0x0 : Int) (c1x0 : Bool) : Option (Bool × Int × Bool) := callL tt FT SP 46 (show InVals (FT 46) from ((a0, ()), ((c0x0, ()), (c1x0, ()), ())))
noncomputable def F_1x (a0 : ByteArray) (a1 : ByteArray) : Option ByteArray := callL tt FT SP 47 (show InVals (FT 47) from ((a0, a1, ()), (())))
noncomputable def F_f (a0 : Int) : Option Int := callL tt FT SP 48 (show InVals (FT 48) from ((a0, ()), (())))
noncomputable def F_h (a0 : List SNode) : Option Bool := callL tt FT SP 49 (show InVals (FT 49) from ((a0, ()), (())))
noncomputable def F_1h (a0 : List SNode) : Option Bool := callL tt FT SP 50 (show InVals (FT 50) from ((a0, (()), ()), (())))
noncomputable def F_1k (a0 : List SNode) : Option Int := callL tt FT SP 51 (show InVals (FT 51) from ((a0, (()), ()), (())))
noncomputable def F_12 (a0 : SNode) : Option Bool := callL tt FT SP 52 (show InVals (FT 52) from ((a0, ()), (())))
noncomputable def F_b (a0 : SNode) : Option Bool := callL tt FT SP 53 (show InVals (FT 53) from ((a0, ()), (())))
noncomputable def F_8 (a0 : Int) : Option Bool := callL tt FT SP 54 (show InVals (FT 54) from ((a0, ()), (())))
noncomputable def F_k (a0 : Int) : Option Bool := callL tt FT SP 55 (show InVals (FT 55) from ((a0, ()), (())))
noncomputable def F_16 (a0 : Int) : Option Bool := callL tt FT SP 56 (show InVals (FT 56) from ((a0, ()), (())))
noncomputable def F_1i (a0 : List Int) : Option Bool := callL tt FT SP 57 (show InVals (FT 57) from ((a0, (()), ()), (())))
noncomputable def F_1l (a0 : List Int) : Option Int := callL tt FT SP 58 (show InVals (FT 58) from ((a0, (()), ()), (())))
noncomputable def F_z (a0 : Int) : Option Bool := callL tt FT SP 59 (show InVals (FT 59) from ((a0, ()), (())))
noncomputable def F_17 (a0 : SNode) (a1 : SNode) : Option Bool := callL tt FT SP 60 (show InVals (FT 60) from ((a0, a1, ()), (())))
noncomputable def F_1j (a0 : List Int) (a1 : List Int) : Option Bool := callL tt FT SP 61 (show InVals (FT 61) from ((a0, a1, ()), (())))
noncomputable def F_j (a0 : List SNode) (a1 : Int) (a2 : Int) : Option Int := callL tt FT SP 62 (show InVals (FT 62) from ((a0, a1, a2, ()), (())))
noncomputable def F_13 (a0 : List SNode) : Option ByteArray := callL tt FT SP 63 (show InVals (FT 63) from ((a0, ()), (())))
noncomputable def F_10 (a0 : SNode) : Option ByteArray := callL tt FT SP 64 (show InVals (FT 64) from ((a0, ()), (())))
noncomputable def F_4 (a0 : Int) : Option ByteArray := callL tt FT SP 65 (show InVals (FT 65) from ((a0, ()), (())))
noncomputable def F_1u (a0 : Int) : Option ByteArray := callL tt FT SP 66 (show InVals (FT 66) from ((a0, ()), (())))
noncomputable def F_g (a0 : SNode) : Option ByteArray := callL tt FT SP 67 (show InVals (FT 67) from ((a0, ()), (())))
noncomputable def F_o (a0 : List ByteArray) : Option (ByteArray × Yt4) := callL tt FT SP 68 (show InVals (FT 68) from ((a0, ()), (())))
noncomputable def F_1w (a0 : List ByteArray) (a1 : ByteArray) : Option (ByteArray × Yt4) := callL tt FT SP 69 (show InVals (FT 69) from ((a0, a1, ()), (())))
theorem U_14 (a0 : ByteArray) : Le ((bif (decide ((a0.size : Int) > 1048576)) then
 some true
 else (F_1n a0).bind (fun y1 => (F_y a0).bind (fun y2 => (bif (y2 != y1) then
 some false
 else some true))))) (F_1g a0) := callL_le (tt := tt) (FT := FT) (SP := SP) (j := 0) rfl (by kernel_rfl)
@[simp] noncomputable def J_1t (v3 : Bool) : Option Bool :=
 some v3
theorem U_1c (a0 : ByteArray) : Le ((F_1p a0).bind (fun y1 => joinK ((bif (y1.2 == (-1)) then
 (F_1q y1.1).bind (fun y2 => some (.go (y2.toList == a0.toList)))
 else some (.go false)))
 (fun s => J_1t s))) (F_1n a0) := callL_le (tt := tt) (FT := FT) (SP := SP) (j := 1) rfl (by kernel_rfl)
noncomputable def L_5 (f0 : ((List SNode) × Int × Yt4 × Int × Bool × (List SNode) × Int) → Option (Ex Yt11 ((List SNode) × Int × Yt4 × Int × Bool × (List SNode)))) (v2 : List SNode) (v3 : Int) (v4 : List ByteArray) (v5 : Int) (v6 : Bool) (v7 : List SNode) (v8 : Int) : Option (Ex Yt11 ((List SNode) × Int × Yt4 × Int × Bool × (List SNode))) :=
 (bif (decide (v8 > 0)) then
 (F_1t v4 v5 v6).bind (fun y9 => (bif y9.2.2.2 then
 some (.ret ([], y9.2.2.1))
 else (apx v7 ([(y9.1.1, (y9.1.2.1, (y9.1.2.2.1, (y9.1.2.2.2.1, (y9.1.2.2.2.2.1, (y9.1.2.2.2.2.2.1, (y9.1.2.2.2.2.2.2.1, ())))))))])).bind (fun z10 => (F_q y9.1.1).bind (fun y11 => f0 (v2, v3, y9.2.1, y9.2.2.1, y9.2.2.2, z10, (IntKind.i64.wrap ((IntKind.i64.wrap (v8 + y11)) - 1)))))))
 else some (.go (v2, v3, v4, v5, v6, v7)))
@[simp] noncomputable def J_13 (v12 : List SNode) (v13 : Int) (v14 : List ByteArray) (v15 : Int) (v16 : Bool) (v17 : List SNode) : Option Yt11 :=
 (bif (decide (v15 < (v14.length : Int))) then
 some ([], v15)
 else (F_r v17).bind (fun y18 => (bif (!y18) then
 some ([], (v14.length : Int))
 else some (v17, (-1)))))
theorem U_1f (a0 : ByteArray) : Le ((bif (decide ((a0.size : Int) > 2000)) then
 some ([], 0)
 else (F_1r a0).bind (fun y1 => joinK (loopF (fun f s => L_5 f s.1 s.2.1 s.2.2.1 s.2.2.2.1 s.2.2.2.2.1 s.2.2.2.2.2.1 s.2.2.2.2.2.2) ([], 0, y1, 0, false, [], 1))
 (fun s => J_13 s.1 s.2.1 s.2.2.1 s.2.2.2.1 s.2.2.2.2.1 s.2.2.2.2.2)))) (F_1p a0) := callL_le (tt := tt) (FT := FT) (SP := SP) (j := 2) rfl (by kernel_rfl)
@[simp] noncomputable def J_2 (v10 : List ByteArray) : Option (Ex (Ex Yt4 Yt4) (Yt4 × ByteArray)) :=
 some (.go (v10, ByteArray.empty))
@[simp] noncomputable def J_h (a0 : ByteArray) (v1 : List ByteArray) (v2 : ByteArray) (v3 : Int) (v6 : Bool) : Option (Ex (Ex Yt4 Yt4) (Yt4 × ByteArray)) :=
 (bif v6 then
 (ssx a0 v3 (IntKind.i64.wrap (v3 + 1))).bind (fun z7 => (addx v2 z7).bind (fun z8 => some (.go (v1, z8))))
 else joinK ((bif (!(v2.toList == ByteArray.empty.toList)) then
 (apx v1 ([v2])).bind (fun z9 => some (.go z9))
 else some (.go v1)))
 (fun s => J_2 s))
@[simp] noncomputable def J_g (v3 : Int) (f0 : (Yt4 × ByteArray × Int) → Option (Ex Yt4 Yt4)) (v11 : List ByteArray) (v12 : ByteArray) : Option (Ex Yt4 Yt4) :=
 f0 (v11, v12, (IntKind.i64.wrap (v3 + 1)))
noncomputable def L_k (a0 : ByteArray) (f0 : (Yt4 × ByteArray × Int) → Option (Ex Yt4 Yt4)) (v1 : List ByteArray) (v2 : ByteArray) (v3 : Int) : Option (Ex Yt4 Yt4) :=
 (bif (decide (v3 ≤ (a0.size : Int))) then
 joinK (joinK ((bif (decide (v3 < (a0.size : Int))) then
 (bix a0 v3).bind (fun z4 => (bif (z4 != 32) then
 (bix a0 v3).bind (fun z5 => some (.go (z5 != 10)))
 else some (.go false)))
 else some (.go false)))
 (fun s => J_h a0 v1 v2 v3 s))
 (fun s => J_g v3 f0 s.1 s.2)
 else some (.go v1))
@[simp] noncomputable def J_25 (v13 : List ByteArray) : Option Yt4 :=
 some v13
theorem U_1j (a0 : ByteArray) : Le ((bif (decide ((a0.size : Int) > 2000)) then
 some ([])
 else joinK (loopF (fun f s => L_k a0 f s.1 s.2.1 s.2.2) ([], ByteArray.empty, 0))
 (fun s => J_25 s))) (F_1r a0) := callL_le (tt := tt) (FT := FT) (SP := SP) (j := 3) rfl (by kernel_rfl)
@[simp] noncomputable def J_5 (y3 : Int) (y8 : Yt8) (y11 : Int) (v13 : List ByteArray) (v14 : Int) (v15 : Bool) (v16 : Bool) : Option Yt5 :=
 (bif v16 then
 (F_2 v13 v14 v15 true).bind (fun y17 => some (.go (y3, ByteArray.empty, y8.1, y11, y17.1, y17.2.1, [], y17.2.2.1, y17.2.2.2.1, y17.2.2.2.2)))
 else some (.go (y3, ByteArray.empty, y8.1, y11, 0, false, [], v13, v14, v15)))
@[simp] noncomputable def J_4 (y3 : Int) (y8 : Yt8) (y11 : Int) (v13 : List ByteArray) (v14 : Int) (v15 : Bool) : Option Yt5 :=
 joinK ((bif (!v15) then
 some (.go (y11 != 3))
 else some (.go false)))
 (fun s => J_5 y3 y8 y11 v13 v14 v15 s)
@[simp] noncomputable def J_1e (v24 : Int) (v25 : ByteArray) (v26 : Int) (v27 : Int) (v28 : Int) (v29 : Bool) (v30 : List Int) (v31 : Int) (v32 : List ByteArray) (v33 : Int) (v34 : Bool) (f0 : (Int × ByteArray × Int × Int × Int × Bool × (List Int) × Int × Yt4 × Int × Bool) → Option Yt5) (v35 : Bool) : Option Yt5 :=
 (bif v35 then
 (F_2 v32 v33 v34 false).bind (fun y36 => (apx v30 ([y36.1])).bind (fun z37 => f0 (v24, v25, v26, v27, v28, v29, z37, (IntKind.i64.wrap (v31 + 1)), y36.2.2.1, y36.2.2.2.1, y36.2.2.2.2)))
 else some (.go (v24, v25, v26, v27, v28, v29, v30, v32, v33, v34)))
noncomputable def L_1 (y18 : Yt8) (f0 : (Int × ByteArray × Int × Int × Int × Bool × (List Int) × Int × Yt4 × Int × Bool) → Option Yt5) (v24 : Int) (v25 : ByteArray) (v26 : Int) (v27 : Int) (v28 : Int) (v29 : Bool) (v30 : List Int) (v31 : Int) (v32 : List ByteArray) (v33 : Int) (v34 : Bool) : Option Yt5 :=
 joinK ((bif (decide (v31 < y18.1)) then
 some (.go (!v34))
 else some (.go false)))
 (fun s => J_1e v24 v25 v26 v27 v28 v29 v30 v31 v32 v33 v34 f0 s)
@[simp] noncomputable def J_6 (y3 : Int) (y18 : Yt8) (v21 : List ByteArray) (v22 : Int) (v23 : Bool) : Option Yt5 :=
 loopF (fun f s => L_1 y18 f s.1 s.2.1 s.2.2.1 s.2.2.2.1 s.2.2.2.2.1 s.2.2.2.2.2.1 s.2.2.2.2.2.2.1 s.2.2.2.2.2.2.2.1 s.2.2.2.2.2.2.2.2.1 s.2.2.2.2.2.2.2.2.2.1 s.2.2.2.2.2.2.2.2.2.2) (y3, ByteArray.empty, 0, 0, 0, false, [], 0, v21, v22, v23)
@[simp] noncomputable def J_1d (v42 : Int) (v43 : ByteArray) (v44 : Int) (v45 : Int) (v46 : Int) (v47 : Bool) (v48 : List Int) (v49 : List ByteArray) (v50 : Int) (v51 : Bool) : Option (SNode × Yt4 × Int × Bool) :=
 some ((v42, (v43, (v44, (v45, (v46, (v47, (v48, ()))))))), v49, v50, v51)
theorem U_1q (a0x0 : List ByteArray) (a0x1 : Int) (a0x2 : Bool) : Le ((F_x).bind (fun y1 => (F_7 a0x0 a0x1 a0x2).bind (fun y2 => (F_a y1 y2.1).bind (fun y3 => (bif (decide (y3 < 0)) then
 (F_6 y2.2.1 y2.2.2.1 y2.2.2.2).bind (fun y4 => some ((y3, (ByteArray.empty, (0, (0, (0, (false, ([], ()))))))), y4.1, y4.2.1, y4.2.2))
 else joinK ((bif (y3 == 0) then
 (F_7 y2.2.1 y2.2.2.1 y2.2.2.2).bind (fun y5 => (F_s y5.1).bind (fun y6 => (bif (!y6) then
 (F_6 y5.2.1 y5.2.2.1 y5.2.2.2).bind (fun y7 => some (.go (y3, y5.1, 0, 0, 0, false, [], y7.1, y7.2.1, y7.2.2)))
 else some (.go (y3, y5.1, 0, 0, 0, false, [], y5.2.1, y5.2.2.1, y5.2.2.2)))))
 else (bif (y3 == 1) then
 (F_2 y2.2.1 y2.2.2.1 y2.2.2.2 false).bind (fun y8 => (F_w).bind (fun y9 => (F_7 y8.2.2.1 y8.2.2.2.1 y8.2.2.2.2).bind (fun y10 => (F_a y9 y10.1).bind (fun y11 => joinK ((bif (decide (y11 < 0)) then
 (F_6 y10.2.1 y10.2.2.1 y10.2.2.2).bind (fun y12 => some (.go (y12.1, y12.2.1, y12.2.2)))
 else some (.go (y10.2.1, y10.2.2.1, y10.2.2.2))))
 (fun s => J_4 y3 y8 y11 s.1 s.2.1 s.2.2)))))
 else (bif (y3 == 2) then
 (F_2 y2.2.1 y2.2.2.1 y2.2.2.2 false).bind (fun y18 => joinK ((F_0 y18.1 1 6).bind (fun y19 => (bif (!y19) then
 (F_6 y18.2.2.1 y18.2.2.2.1 y18.2.2.2.2).bind (fun y20 => some (.go (y20.1, y20.2.1, y20.2.2)))
 else some (.go (y18.2.2.1, y18.2.2.2.1, y18.2.2.2.2)))))
 (fun s => J_6 y3 y18 s.1 s.2.1 s.2.2))
 else (bif (y3 == 3) then
 (F_2 y2.2.1 y2.2.2.1 y2.2.2.2 false).bind (fun y38 => (F_2 y38.2.2.1 y38.2.2.2.1 y38.2.2.2.2 false).bind (fun y39 => some (.go (y3, ByteArray.empty, y38.1, 0, y39.1, false, [], y39.2.2.1, y39.2.2.2.1, y39.2.2.2.2))))
 else (bif (y3 == 5) then
 (F_2 y2.2.1 y2.2.2.1 y2.2.2.2 false).bind (fun y40 => some (.go (y3, ByteArray.empty, y40.1, 0, 0, false, [], y40.2.2.1, y40.2.2.2.1, y40.2.2.2.2)))
 else (bif (y3 == 6) then
 (F_2 y2.2.1 y2.2.2.1 y2.2.2.2 true).bind (fun y41 => some (.go (y3, ByteArray.empty, 0, 0, y41.1, y41.2.1, [], y41.2.2.1, y41.2.2.2.1, y41.2.2.2.2)))
 else some (.go (y3, ByteArray.empty, 0, 0, 0, false, [], y2.2.1, y2.2.2.1, y2.2.2.2)))))))))
 (fun s => J_1d s.1 s.2.1 s.2.2.1 s.2.2.2.1 s.2.2.2.2.1 s.2.2.2.2.2.1 s.2.2.2.2.2.2.1 s.2.2.2.2.2.2.2.1 s.2.2.2.2.2.2.2.2.1 s.2.2.2.2.2.2.2.2.2)))))) (F_1t a0x0 a0x1 a0x2) := callL_le (tt := tt) (FT := FT) (SP := SP) (j := 4) rfl (by kernel_rfl)
theorem U_1t : Le (some ([(⟨#[115, 99, 97, 110]⟩ : ByteArray), (⟨#[102, 105, 108, 116, 101, 114]⟩ : ByteArray), (⟨#[107, 101, 101, 112]⟩ : ByteArray), (⟨#[106, 111, 105, 110]⟩ : ByteArray), (⟨#[98, 111, 116, 104]⟩ : ByteArray), (⟨#[115, 111, 114, 116]⟩ : ByteArray), (⟨#[108, 105, 109, 105, 116]⟩ : ByteArray), (⟨#[111, 110, 99, 101]⟩ : ByteArray)])) (F_x) := callL_le (tt := tt) (FT := FT) (SP := SP) (j := 5) rfl (by kernel_rfl)
@[simp] noncomputable def J_k (a0x0 : List ByteArray) (a0x1 : Int) (a0x2 : Bool) (v1 : Bool) : Option Yt12 :=
 (bif v1 then
 some (ByteArray.empty, a0x0, a0x1, true)
 else (ix a0x0 a0x1).bind (fun z2 => some (z2, a0x0, (IntKind.i64.wrap (a0x1 + 1)), a0x2)))
theorem U_1 (a0x0 : List ByteArray) (a0x1 : Int) (a0x2 : Bool) : Le (joinK ((bif a0x2 then
 some (.go true)
 else some (.go (decide (a0x1 ≥ (a0x0.length : Int))))))
 (fun s => J_k a0x0 a0x1 a0x2 s)) (F_7 a0x0 a0x1 a0x2) := callL_le (tt := tt) (FT := FT) (SP := SP) (j := 6) rfl (by kernel_rfl)
noncomputable def L_g (a0 : List ByteArray) (a1 : ByteArray) (f0 : (Int × Int) → Option (Ex Int Int)) (v1 : Int) (v2 : Int) : Option (Ex Int Int) :=
 (bif (decide (v2 < (a0.length : Int))) then
 (ix a0 v2).bind (fun z3 => (bif (z3.toList == a1.toList) then
 some (.ret v2)
 else f0 (v1, (IntKind.i64.wrap (v2 + 1)))))
 else some (.go v1))
@[simp] noncomputable def J_28 (v4 : Int) : Option Int :=
 some (-1)
theorem U_1p (a0 : List ByteArray) (a1 : ByteArray) : Le (joinK (loopF (fun f s => L_g a0 a1 f s.1 s.2) (0, 0))
 (fun s => J_28 s)) (F_a a0 a1) := callL_le (tt := tt) (FT := FT) (SP := SP) (j := 7) rfl (by kernel_rfl)
theorem U_b (a0x0 : List ByteArray) (a0x1 : Int) (a0x2 : Bool) : Le ((bif (!a0x2) then
 some (a0x0, (IntKind.i64.wrap (a0x1 - 1)), true)
 else some (a0x0, a0x1, a0x2))) (F_6 a0x0 a0x1 a0x2) := callL_le (tt := tt) (FT := FT) (SP := SP) (j := 8) rfl (by kernel_rfl)
@[simp] noncomputable def J_16 (v4 : Bool) (v5 : Int) (f0 : (Bool × Int) → Option Yt7) (v12 : Bool) : Option Yt7 :=
 (bif v12 then
 some (.ret false)
 else f0 (v4, (IntKind.i64.wrap (v5 + 1))))
noncomputable def L_f (a0 : ByteArray) (f0 : (Bool × Int) → Option Yt7) (v4 : Bool) (v5 : Int) : Option Yt7 :=
 (bif (decide (v5 < (a0.size : Int))) then
 joinK ((bix a0 v5).bind (fun z6 => (bif (decide (z6 < 97)) then
 (bix a0 v5).bind (fun z7 => (bif (decide (z7 < 48)) then
 some (.go true)
 else (bix a0 v5).bind (fun z8 => some (.go (decide (z8 > 57))))))
 else (bix a0 v5).bind (fun z9 => (bif (decide (z9 > 122)) then
 (bix a0 v5).bind (fun z10 => (bif (decide (z10 < 48)) then
 some (.go true)
 else (bix a0 v5).bind (fun z11 => some (.go (decide (z11 > 57))))))
 else some (.go false))))))
 (fun s => J_16 v4 v5 f0 s)
 else some (.go v4))
@[simp] noncomputable def J_24 (v13 : Bool) : Option Bool :=
 some true
@[simp] noncomputable def J_15 (a0 : ByteArray) (v3 : Bool) : Option Bool :=
 (bif v3 then
 some false
 else joinK (loopF (fun f s => L_f a0 f s.1 s.2) (false, 0))
 (fun s => J_24 s))
theorem U_1i (a0 : ByteArray) : Le (joinK ((F_0 (a0.size : Int) 1 12).bind (fun y1 => (bif (!y1) then
 some (.go true)
 else (bix a0 0).bind (fun z2 => some (.go (decide (z2 < 97)))))))
 (fun s => J_15 a0 s)) (F_s a0) := callL_le (tt := tt) (FT := FT) (SP := SP) (j := 9) rfl (by kernel_rfl)
@[simp] noncomputable def J_26 (v1 : Bool) : Option Bool :=
 some v1
theorem U_1k (a0 : Int) (a1 : Int) (a2 : Int) : Le (joinK ((bif (decide (a1 ≤ a0)) then
 some (.go (decide (a0 ≤ a2)))
 else some (.go false)))
 (fun s => J_26 s)) (F_0 a0 a1 a2) := callL_le (tt := tt) (FT := FT) (SP := SP) (j := 10) rfl (by kernel_rfl)
@[simp] noncomputable def J_3 (y1 : Yt12) (v3 : Bool) (y6 : Yt14) (v7 : Bool) : Option Yt8 :=
 (bif v7 then
 (F_6 y1.2.1 y1.2.2.1 y1.2.2.2).bind (fun y8 => some (0, false, y8.1, y8.2.1, y8.2.2))
 else some (y6.1, v3, y1.2.1, y1.2.2.1, y1.2.2.2))
@[simp] noncomputable def J_b (y1 : Yt12) (v3 : Bool) (v5 : ByteArray) : Option Yt8 :=
 (F_1s v5).bind (fun y6 => joinK ((bif (!y6.2) then
 some (.go true)
 else (bif v3 then
 some (.go (decide (y6.1 < 0)))
 else some (.go false))))
 (fun s => J_3 y1 v3 y6 s))
@[simp] noncomputable def J_j (y1 : Yt12) (v3 : Bool) : Option Yt8 :=
 joinK ((bif v3 then
 (ssx y1.1 1 (y1.1.size : Int)).bind (fun z4 => some (.go z4))
 else some (.go y1.1)))
 (fun s => J_b y1 v3 s)
theorem U_0 (a0x0 : List ByteArray) (a0x1 : Int) (a0x2 : Bool) (a1 : Bool) : Le ((F_7 a0x0 a0x1 a0x2).bind (fun y1 => (bif y1.2.2.2 then
 some (0, false, y1.2.1, y1.2.2.1, y1.2.2.2)
 else joinK ((bif a1 then
 (bix y1.1 0).bind (fun z2 => some (.go (z2 == 36)))
 else some (.go false)))
 (fun s => J_j y1 s)))) (F_2 a0x0 a0x1 a0x2 a1) := callL_le (tt := tt) (FT := FT) (SP := SP) (j := 11) rfl (by kernel_rfl)
@[simp] noncomputable def J_9 (a0 : ByteArray) (v2 : Bool) : Option (Ex Yt14 ByteArray) :=
 (bif v2 then
 (ssx a0 1 (a0.size : Int)).bind (fun z3 => some (.go z3))
 else some (.go a0))
@[simp] noncomputable def J_1a (v4 : ByteArray) (v6 : Int) (v7 : Bool) (v8 : Int) (v9 : Int) (f0 : (Int × Bool × Int × Int) → Option (Ex Yt14 (Int × Bool × Int))) (v12 : Bool) : Option (Ex Yt14 (Int × Bool × Int)) :=
 (bif v12 then
 some (.ret (0, false))
 else (bix v4 v9).bind (fun z13 => f0 (v6, v7, (IntKind.i64.wrap ((IntKind.i64.wrap ((IntKind.i64.wrap (10 * v8)) + (IntKind.i64.wrap z13))) - 48)), (IntKind.i64.wrap (v9 + 1)))))
noncomputable def L_6 (v4 : ByteArray) (f0 : (Int × Bool × Int × Int) → Option (Ex Yt14 (Int × Bool × Int))) (v6 : Int) (v7 : Bool) (v8 : Int) (v9 : Int) : Option (Ex Yt14 (Int × Bool × Int)) :=
 (bif (decide (v9 < (v4.size : Int))) then
 joinK ((bix v4 v9).bind (fun z10 => (bif (decide (z10 < 48)) then
 some (.go true)
 else (bix v4 v9).bind (fun z11 => some (.go (decide (z11 > 57)))))))
 (fun s => J_1a v4 v6 v7 v8 v9 f0 s)
 else some (.go (v6, v7, v8)))
@[simp] noncomputable def J_27 (v20 : Int) (v21 : Bool) : Option Yt14 :=
 some (v20, v21)
@[simp] noncomputable def J_1b (a0 : ByteArray) (v17 : Int) : Option Yt14 :=
 joinK ((F_1 v17).bind (fun y18 => (bif (y18.toList == a0.toList) then
 (F_t v17).bind (fun y19 => some (.go (v17, y19)))
 else some (.go (v17, false)))))
 (fun s => J_27 s.1 s.2)
@[simp] noncomputable def J_19 (a0 : ByteArray) (v4 : ByteArray) (v14 : Int) (v15 : Bool) (v16 : Int) : Option Yt14 :=
 joinK ((bif (decide ((v4.size : Int) < (a0.size : Int))) then
 some (.go (IntKind.i64.wrap (0 - v16)))
 else some (.go v16)))
 (fun s => J_1b a0 s)
@[simp] noncomputable def J_18 (a0 : ByteArray) (v4 : ByteArray) : Option Yt14 :=
 (F_0 (v4.size : Int) 1 7).bind (fun y5 => (bif (!y5) then
 some (0, false)
 else joinK (loopF (fun f s => L_6 v4 f s.1 s.2.1 s.2.2.1 s.2.2.2) (0, false, 0, 0))
 (fun s => J_19 a0 v4 s.1 s.2.1 s.2.2)))
theorem U_1n (a0 : ByteArray) : Le (joinK (joinK ((bif (decide ((a0.size : Int) > 0)) then
 (bix a0 0).bind (fun z1 => some (.go (z1 == 45)))
 else some (.go false)))
 (fun s => J_9 a0 s))
 (fun s => J_18 a0 s)) (F_1s a0) := callL_le (tt := tt) (FT := FT) (SP := SP) (j := 12) rfl (by kernel_rfl)
@[simp] noncomputable def J_8 (v1 : Int) (v2 : ByteArray) (f0 : (Int × ByteArray) → Option Yt9) (v4 : Int) : Option Yt9 :=
 (addx (bsOf ([(IntKind.u8.wrap (IntKind.i64.wrap (48 + v4)))])) v2).bind (fun z5 => (quox v1 10).bind (fun z6 => f0 (z6, z5)))
noncomputable def L_l (f0 : (Int × ByteArray) → Option Yt9) (v1 : Int) (v2 : ByteArray) : Option Yt9 :=
 (bif (v1 != 0) then
 (remx v1 10).bind (fun z3 => joinK ((bif (decide (z3 < 0)) then
 some (.go (IntKind.i64.wrap (0 - z3)))
 else some (.go z3)))
 (fun s => J_8 v1 v2 f0 s))
 else some (.go v2))
@[simp] noncomputable def J_17 (a0 : Int) (v7 : ByteArray) : Option ByteArray :=
 (bif (decide (a0 < 0)) then
 (addx (⟨#[45]⟩ : ByteArray) v7).bind (fun z8 => some z8)
 else some v7)
theorem U_1l (a0 : Int) : Le ((bif (a0 == 0) then
 some (⟨#[48]⟩ : ByteArray)
 else joinK (loopF (fun f s => L_l f s.1 s.2) (a0, ByteArray.empty))
 (fun s => J_17 a0 s))) (F_1 a0) := callL_le (tt := tt) (FT := FT) (SP := SP) (j := 13) rfl (by kernel_rfl)
theorem U_1m (a0 : Int) : Le ((F_0 a0 (-1000000) 1000000).bind (fun y1 => some y1)) (F_t a0) := callL_le (tt := tt) (FT := FT) (SP := SP) (j := 14) rfl (by kernel_rfl)
theorem U_1s : Le (some ([(⟨#[61]⟩ : ByteArray), (⟨#[60]⟩ : ByteArray), (⟨#[62]⟩ : ByteArray), (⟨#[110, 111, 110, 101]⟩ : ByteArray)])) (F_w) := callL_le (tt := tt) (FT := FT) (SP := SP) (j := 15) rfl (by kernel_rfl)
@[simp] noncomputable def J_1s (v2 : Bool) : Option Int :=
 (bif v2 then
 some 1
 else some (-1))
@[simp] noncomputable def J_1r (a0 : Int) (v1 : Bool) : Option Int :=
 (bif v1 then
 some 2
 else joinK ((bif (a0 == 1) then
 some (.go true)
 else (bif (a0 == 2) then
 some (.go true)
 else (bif (a0 == 5) then
 some (.go true)
 else (bif (a0 == 6) then
 some (.go true)
 else some (.go (a0 == 7)))))))
 (fun s => J_1s s))
theorem U_1b (a0 : Int) : Le ((bif (a0 == 0) then
 some 0
 else joinK ((bif (a0 == 3) then
 some (.go true)
 else some (.go (a0 == 4))))
 (fun s => J_1r a0 s))) (F_q a0) := callL_le (tt := tt) (FT := FT) (SP := SP) (j := 16) rfl (by kernel_rfl)
noncomputable def L_e (a0 : List SNode) (f0 : (Bool × Int) → Option Yt7) (v2 : Bool) (v3 : Int) : Option Yt7 :=
 (bif (decide (v3 < (a0.length : Int))) then
 (ix a0 v3).bind (fun z4 => (F_e z4).bind (fun y5 => (bif (!y5) then
 some (.ret false)
 else f0 (v2, (IntKind.i64.wrap (v3 + 1))))))
 else some (.go v2))
@[simp] noncomputable def J_14 (a0 : List SNode) (v6 : Bool) : Option Bool :=
 (F_u a0 0 10).bind (fun y7 => some (y7.1 == (a0.length : Int)))
theorem U_1g (a0 : List SNode) : Le ((F_0 (a0.length : Int) 1 40).bind (fun y1 => (bif (!y1) then
 some false
 else joinK (loopF (fun f s => L_e a0 f s.1 s.2) (false, 0))
 (fun s => J_14 a0 s)))) (F_r a0) := callL_le (tt := tt) (FT := FT) (SP := SP) (j := 17) rfl (by kernel_rfl)
@[simp] noncomputable def J_1w (v11 : Bool) : Option Yt7 :=
 some (.ret v11)
@[simp] noncomputable def J_1x (v15 : Bool) : Option Yt7 :=
 some (.ret v15)
noncomputable def L_d (a0 : SNode) (f0 : (Bool × Int) → Option (Ex Yt7 Bool)) (v16 : Bool) (v17 : Int) : Option (Ex Yt7 Bool) :=
 (bif (decide (v17 < (a0.2.2.2.2.2.2.1.length : Int))) then
 (ix a0.2.2.2.2.2.2.1 v17).bind (fun z18 => (F_9 z18).bind (fun y19 => (bif (!y19) then
 some (.ret (.ret false))
 else f0 (v16, (IntKind.i64.wrap (v17 + 1))))))
 else some (.go v16))
@[simp] noncomputable def J_1y (v22 : Bool) : Option Yt7 :=
 some (.ret v22)
@[simp] noncomputable def J_12 (a0 : SNode) (v20 : Bool) : Option Yt7 :=
 joinK ((F_0 (a0.2.2.2.2.2.2.1.length : Int) 1 6).bind (fun y21 => (bif y21 then
 (bif (a0.2.2.1 == 0) then
 (bif (a0.2.2.2.2.1 == 0) then
 some (.go (!a0.2.2.2.2.2.1))
 else some (.go false))
 else some (.go false))
 else some (.go false))))
 (fun s => J_1y s)
@[simp] noncomputable def J_1z (v25 : Bool) : Option Yt7 :=
 some (.ret v25)
@[simp] noncomputable def J_20 (v27 : Bool) : Option Yt7 :=
 some (.ret v27)
@[simp] noncomputable def J_21 (v29 : Bool) : Option Yt7 :=
 some (.ret v29)
@[simp] noncomputable def J_1v (v31 : Bool) : Option Yt7 :=
 some (.ret v31)
@[simp] noncomputable def J_22 (a0 : SNode) (v30 : Bool) : Option Yt7 :=
 (bif v30 then
 joinK ((bif (a0.2.2.1 == 0) then
 (bif (a0.2.2.2.2.1 == 0) then
 some (.go (!a0.2.2.2.2.2.1))
 else some (.go false))
 else some (.go false)))
 (fun s => J_1v s)
 else some (.go false))
@[simp] noncomputable def J_1u (v32 : Bool) : Option Bool :=
 some false
@[simp] noncomputable def J_11 (a0 : SNode) (v9 : Bool) : Option Bool :=
 (bif v9 then
 some false
 else joinK ((bif (a0.1 == 0) then
 joinK ((F_s a0.2.1).bind (fun y10 => (bif y10 then
 (bif (a0.2.2.1 == 0) then
 (bif (a0.2.2.2.2.1 == 0) then
 some (.go (!a0.2.2.2.2.2.1))
 else some (.go false))
 else some (.go false))
 else some (.go false))))
 (fun s => J_1w s)
 else (bif (a0.1 == 1) then
 joinK ((F_9 a0.2.2.1).bind (fun y12 => (bif y12 then
 (F_0 a0.2.2.2.1 0 3).bind (fun y13 => (bif y13 then
 (F_t a0.2.2.2.2.1).bind (fun y14 => (bif y14 then
 (bif (a0.2.2.2.1 != 3) then
 some (.go true)
 else (bif (a0.2.2.2.2.1 == 0) then
 some (.go (!a0.2.2.2.2.2.1))
 else some (.go false)))
 else some (.go false)))
 else some (.go false)))
 else some (.go false))))
 (fun s => J_1x s)
 else (bif (a0.1 == 2) then
 joinK (loopF (fun f s => L_d a0 f s.1 s.2) (false, 0))
 (fun s => J_12 a0 s)
 else (bif (a0.1 == 3) then
 joinK ((F_9 a0.2.2.1).bind (fun y23 => (bif y23 then
 (F_9 a0.2.2.2.2.1).bind (fun y24 => (bif y24 then
 some (.go (!a0.2.2.2.2.2.1))
 else some (.go false)))
 else some (.go false))))
 (fun s => J_1z s)
 else (bif (a0.1 == 5) then
 joinK ((F_9 a0.2.2.1).bind (fun y26 => (bif y26 then
 (bif (a0.2.2.2.2.1 == 0) then
 some (.go (!a0.2.2.2.2.2.1))
 else some (.go false))
 else some (.go false))))
 (fun s => J_20 s)
 else (bif (a0.1 == 6) then
 joinK ((bif (a0.2.2.1 == 0) then
 (F_0 a0.2.2.2.2.1 0 1000000).bind (fun y28 => some (.go y28))
 else some (.go false)))
 (fun s => J_21 s)
 else joinK ((bif (a0.1 == 4) then
 some (.go true)
 else some (.go (a0.1 == 7))))
 (fun s => J_22 a0 s))))))))
 (fun s => J_1u s))
theorem U_1d (a0 : SNode) : Le (joinK ((bif (a0.1 != 0) then
 (bif (!(a0.2.1.toList == ByteArray.empty.toList)) then
 some (.go true)
 else (bif (a0.1 != 2) then
 (bif (decide ((a0.2.2.2.2.2.2.1.length : Int) > 0)) then
 some (.go true)
 else (bif (a0.1 != 1) then
 (bif (a0.2.2.2.1 != 0) then
 some (.go true)
 else (bif a0.2.2.2.2.2.1 then
 (F_0 a0.2.2.2.2.1 0 39).bind (fun y1 => some (.go (!y1)))
 else some (.go false)))
 else (bif a0.2.2.2.2.2.1 then
 (F_0 a0.2.2.2.2.1 0 39).bind (fun y2 => some (.go (!y2)))
 else some (.go false))))
 else (bif (a0.1 != 1) then
 (bif (a0.2.2.2.1 != 0) then
 some (.go true)
 else (bif a0.2.2.2.2.2.1 then
 (F_0 a0.2.2.2.2.1 0 39).bind (fun y3 => some (.go (!y3)))
 else some (.go false)))
 else (bif a0.2.2.2.2.2.1 then
 (F_0 a0.2.2.2.2.1 0 39).bind (fun y4 => some (.go (!y4)))
 else some (.go false)))))
 else (bif (a0.1 != 2) then
 (bif (decide ((a0.2.2.2.2.2.2.1.length : Int) > 0)) then
 some (.go true)
 else (bif (a0.1 != 1) then
 (bif (a0.2.2.2.1 != 0) then
 some (.go true)
 else (bif a0.2.2.2.2.2.1 then
 (F_0 a0.2.2.2.2.1 0 39).bind (fun y5 => some (.go (!y5)))
 else some (.go false)))
 else (bif a0.2.2.2.2.2.1 then
 (F_0 a0.2.2.2.2.1 0 39).bind (fun y6 => some (.go (!y6)))
 else some (.go false))))
 else (bif (a0.1 != 1) then
 (bif (a0.2.2.2.1 != 0) then
 some (.go true)
 else (bif a0.2.2.2.2.2.1 then
 (F_0 a0.2.2.2.2.1 0 39).bind (fun y7 => some (.go (!y7)))
 else some (.go false)))
 else (bif a0.2.2.2.2.2.1 then
 (F_0 a0.2.2.2.2.1 0 39).bind (fun y8 => some (.go (!y8)))
 else some (.go false))))))
 (fun s => J_11 a0 s)) (F_e a0) := callL_le (tt := tt) (FT := FT) (SP := SP) (j := 18) rfl (by kernel_rfl)
theorem U_1o (a0 : Int) : Le ((F_0 a0 0 63).bind (fun y1 => some y1)) (F_9 a0) := callL_le (tt := tt) (FT := FT) (SP := SP) (j := 19) rfl (by kernel_rfl)
@[simp] noncomputable def J_1c (v6 : Int) (f0 : (Int × Int × Int × Int × Int) → Option Yt10) (v10 : Int) (v11 : Int) (v12 : Int) (v13 : Int) : Option Yt10 :=
 f0 (v10, v11, v12, v13, (IntKind.i64.wrap (v6 + 1)))
noncomputable def L_3 (a0 : List SNode) (a1 : Int) (a2 : Int) (f0 : (Int × Int × Int × Int × Int) → Option Yt10) (v2 : Int) (v3 : Int) (v4 : Int) (v5 : Int) (v6 : Int) : Option Yt10 :=
 (ix a0 a1).bind (fun z7 => (F_q z7.1).bind (fun y8 => (bif (decide (v6 < y8)) then
 joinK ((F_u a0 v4 (IntKind.i64.wrap (a2 - 1))).bind (fun y9 => (bif (decide (y9.1 < 0)) then
 some (.ret (.ret ((-1), 0)))
 else (bif (decide (y9.2 > v5)) then
 some (.go (v2, v3, y9.1, y9.2))
 else some (.go (v2, v3, y9.1, v5))))))
 (fun s => J_1c v6 f0 s.1 s.2.1 s.2.2.1 s.2.2.2)
 else some (.go (v2, v3, v4, v5)))))
@[simp] noncomputable def J_a (v14 : Int) (v15 : Int) (v16 : Int) (v17 : Int) : Option (Int × Int) :=
 some (v16, (IntKind.i64.wrap (v17 + 1)))
@[simp] noncomputable def J_i (a0 : List SNode) (a1 : Int) (a2 : Int) (v1 : Bool) : Option (Int × Int) :=
 (bif v1 then
 some ((-1), 0)
 else joinK (loopF (fun f s => L_3 a0 a1 a2 f s.1 s.2.1 s.2.2.1 s.2.2.2.1 s.2.2.2.2) (0, 0, (IntKind.i64.wrap (a1 + 1)), 0, 0))
 (fun s => J_a s.1 s.2.1 s.2.2.1 s.2.2.2))
theorem U_a (a0 : List SNode) (a1 : Int) (a2 : Int) : Le (joinK ((bif (decide (a1 ≥ (a0.length : Int))) then
 some (.go true)
 else some (.go (a2 == 0))))
 (fun s => J_i a0 a1 a2 s)) (F_u a0 a1 a2) := callL_le (tt := tt) (FT := FT) (SP := SP) (j := 20) rfl (by kernel_rfl)
@[simp] noncomputable def J_f (a0 : List SNode) (v3 : Int) (f0 : (ByteArray × Int) → Option Yt9) (v5 : ByteArray) : Option Yt9 :=
 (ix a0 v3).bind (fun z6 => (F_1o z6).bind (fun y7 => (addx v5 y7).bind (fun z8 => f0 (z8, (IntKind.i64.wrap (v3 + 1))))))
noncomputable def L_j (a0 : List SNode) (f0 : (ByteArray × Int) → Option Yt9) (v2 : ByteArray) (v3 : Int) : Option Yt9 :=
 (bif (decide (v3 < (a0.length : Int))) then
 joinK ((bif (decide (v3 > 0)) then
 (addx v2 (⟨#[32]⟩ : ByteArray)).bind (fun z4 => some (.go z4))
 else some (.go v2)))
 (fun s => J_f a0 v3 f0 s)
 else some (.go v2))
@[simp] noncomputable def J_23 (v9 : ByteArray) : Option ByteArray :=
 some v9
theorem U_1h (a0 : List SNode) : Le ((F_r a0).bind (fun y1 => (bif (!y1) then
 some ByteArray.empty
 else joinK (loopF (fun f s => L_j a0 f s.1 s.2) (ByteArray.empty, 0))
 (fun s => J_23 s)))) (F_1q a0) := callL_le (tt := tt) (FT := FT) (SP := SP) (j := 21) rfl (by kernel_rfl)
noncomputable def L_i (a0 : SNode) (f0 : (ByteArray × Int) → Option (Ex ByteArray (ByteArray × ByteArray))) (v19 : ByteArray) (v20 : Int) : Option (Ex ByteArray (ByteArray × ByteArray)) :=
 (bif (decide (v20 < (a0.2.2.2.2.2.2.1.length : Int))) then
 (addx v19 (⟨#[32]⟩ : ByteArray)).bind (fun z21 => (ix a0.2.2.2.2.2.2.1 v20).bind (fun z22 => (F_1 z22).bind (fun y23 => (addx z21 y23).bind (fun z24 => f0 (z24, (IntKind.i64.wrap (v20 + 1)))))))
 else some (.go (ByteArray.empty, v19)))
@[simp] noncomputable def J_1 (v37 : ByteArray) (v38 : ByteArray) : Option ByteArray :=
 some v38
theorem U_1e (a0 : SNode) : Le ((F_e (a0.1, (a0.2.1, (a0.2.2.1, (a0.2.2.2.1, (a0.2.2.2.2.1, (a0.2.2.2.2.2.1, (a0.2.2.2.2.2.2.1, ())))))))).bind (fun y1 => (bif (!y1) then
 some ByteArray.empty
 else (F_x).bind (fun y2 => (ix y2 a0.1).bind (fun z3 => joinK ((bif (a0.1 == 0) then
 (addx z3 (⟨#[32]⟩ : ByteArray)).bind (fun z4 => (addx z4 a0.2.1).bind (fun z5 => some (.ret z5)))
 else (bif (a0.1 == 1) then
 (addx z3 (⟨#[32]⟩ : ByteArray)).bind (fun z6 => (F_1 a0.2.2.1).bind (fun y7 => (addx z6 y7).bind (fun z8 => (addx z8 (⟨#[32]⟩ : ByteArray)).bind (fun z9 => (F_w).bind (fun y10 => (ix y10 a0.2.2.2.1).bind (fun z11 => (addx z9 z11).bind (fun z12 => (bif (a0.2.2.2.1 != 3) then
 (addx z12 (⟨#[32]⟩ : ByteArray)).bind (fun z13 => (F_v (a0.1, (a0.2.1, (a0.2.2.1, (a0.2.2.2.1, (a0.2.2.2.2.1, (a0.2.2.2.2.2.1, (a0.2.2.2.2.2.2.1, ())))))))).bind (fun y14 => (addx z13 y14).bind (fun z15 => some (.go (ByteArray.empty, z15)))))
 else some (.go (ByteArray.empty, z12))))))))))
 else (bif (a0.1 == 2) then
 (addx z3 (⟨#[32]⟩ : ByteArray)).bind (fun z16 => (F_1 (a0.2.2.2.2.2.2.1.length : Int)).bind (fun y17 => (addx z16 y17).bind (fun z18 => loopF (fun f s => L_i a0 f s.1 s.2) (z18, 0))))
 else (bif (a0.1 == 3) then
 (addx z3 (⟨#[32]⟩ : ByteArray)).bind (fun z25 => (F_1 a0.2.2.1).bind (fun y26 => (addx z25 y26).bind (fun z27 => (addx z27 (⟨#[32]⟩ : ByteArray)).bind (fun z28 => (F_1 a0.2.2.2.2.1).bind (fun y29 => (addx z28 y29).bind (fun z30 => some (.go (ByteArray.empty, z30))))))))
 else (bif (a0.1 == 5) then
 (addx z3 (⟨#[32]⟩ : ByteArray)).bind (fun z31 => (F_1 a0.2.2.1).bind (fun y32 => (addx z31 y32).bind (fun z33 => some (.go (ByteArray.empty, z33)))))
 else (bif (a0.1 == 6) then
 (addx z3 (⟨#[32]⟩ : ByteArray)).bind (fun z34 => (F_v (a0.1, (a0.2.1, (a0.2.2.1, (a0.2.2.2.1, (a0.2.2.2.2.1, (a0.2.2.2.2.2.1, (a0.2.2.2.2.2.2.1, ())))))))).bind (fun y35 => (addx z34 y35).bind (fun z36 => some (.go (ByteArray.empty, z36)))))
 else some (.go (ByteArray.empty, z3)))))))))
 (fun s => J_1 s.1 s.2)))))) (F_1o a0) := callL_le (tt := tt) (FT := FT) (SP := SP) (j := 22) rfl (by kernel_rfl)
theorem U_1r (a0 : SNode) : Le ((bif a0.2.2.2.2.2.1 then
 (F_1 a0.2.2.2.2.1).bind (fun y1 => (addx (⟨#[36]⟩ : ByteArray) y1).bind (fun z2 => some z2))
 else (F_1 a0.2.2.2.2.1).bind (fun y3 => some y3))) (F_v a0) := callL_le (tt := tt) (FT := FT) (SP := SP) (j := 23) rfl (by kernel_rfl)
@[simp] noncomputable def J_l (v2 : Bool) : Option Bool :=
 some v2
theorem U_d (a0 : ByteArray) : Le ((F_14 a0).bind (fun y1 => joinK ((bif y1.2 then
 some (.go (y1.1.toList == a0.toList))
 else some (.go false)))
 (fun s => J_l s))) (F_y a0) := callL_le (tt := tt) (FT := FT) (SP := SP) (j := 24) rfl (by kernel_rfl)
theorem U_m (a0 : ByteArray) : Le ((F_11 a0).bind (fun y1 => (bif (decide (y1.2 ≥ 0)) then
 some (ByteArray.empty, false)
 else (F_13 y1.1).bind (fun y2 => some (y2, true))))) (F_14 a0) := callL_le (tt := tt) (FT := FT) (SP := SP) (j := 25) rfl (by kernel_rfl)
noncomputable def L_4 (f0 : ((List SNode) × Int × (List SNode) × Int × Yt4 × Int × Int) → Option (Ex Yt11 ((List SNode) × Int × (List SNode) × Yt4 × Int × Int))) (v2 : List SNode) (v3 : Int) (v4 : List SNode) (v5 : Int) (v6 : List ByteArray) (v7 : Int) (v8 : Int) : Option (Ex Yt11 ((List SNode) × Int × (List SNode) × Yt4 × Int × Int)) :=
 (bif (decide (v5 > 0)) then
 (F_1c v6 v7 v8).bind (fun y9 => (bif (decide (y9.2.2.2 ≥ 0)) then
 some (.ret ([], y9.2.2.2))
 else (apx v4 ([(y9.1.1, (y9.1.2.1, (y9.1.2.2.1, (y9.1.2.2.2.1, (y9.1.2.2.2.2.1, (y9.1.2.2.2.2.2.1, (y9.1.2.2.2.2.2.2.1, ())))))))])).bind (fun z10 => (F_f y9.1.1).bind (fun y11 => f0 (v2, v3, z10, (IntKind.i64.wrap ((IntKind.i64.wrap (v5 + y11)) - 1)), y9.2.1, y9.2.2.1, y9.2.2.2)))))
 else some (.go (v2, v3, v4, v6, v7, v8)))
@[simp] noncomputable def J_s (v12 : List SNode) (v13 : Int) (v14 : List SNode) (v15 : List ByteArray) (v16 : Int) (v17 : Int) : Option Yt11 :=
 (bif (decide (v16 < (v15.length : Int))) then
 some ([], v16)
 else (F_h v14).bind (fun y18 => (bif (!y18) then
 some ([], (v15.length : Int))
 else some (v14, (-1)))))
theorem U_i (a0 : ByteArray) : Le ((bif (decide ((a0.size : Int) > 2000)) then
 some ([], 0)
 else (F_15 a0).bind (fun y1 => joinK (loopF (fun f s => L_4 f s.1 s.2.1 s.2.2.1 s.2.2.2.1 s.2.2.2.2.1 s.2.2.2.2.2.1 s.2.2.2.2.2.2) ([], 0, [], 1, y1, 0, (-1)))
 (fun s => J_s s.1 s.2.1 s.2.2.1 s.2.2.2.1 s.2.2.2.2.1 s.2.2.2.2.2)))) (F_11 a0) := callL_le (tt := tt) (FT := FT) (SP := SP) (j := 26) rfl (by kernel_rfl)
theorem U_o (a0 : ByteArray) : Le ((bif (decide ((a0.size : Int) > 2000)) then
 some ([])
 else (F_1v a0).bind (fun y1 => some y1))) (F_15 a0) := callL_le (tt := tt) (FT := FT) (SP := SP) (j := 27) rfl (by kernel_rfl)
theorem U_1v (a0 : ByteArray) : Le (fieldsF a0) (F_1v a0) := callL_sp (tt := tt) (FT := FT) (SP := SP) (j := 28) (v := (show InVals (FT 28) from ((a0, (()), ()), (())))) (f := fun v => fieldsF v.1.1) rfl
noncomputable def L_0 (y8 : (Int × Yt4 × Int × Int)) (f0 : (Int × ByteArray × Int × Int × Int × Bool × (List Int) × Int × Yt4 × Int × Int) → Option Yt13) (v9 : Int) (v10 : ByteArray) (v11 : Int) (v12 : Int) (v13 : Int) (v14 : Bool) (v15 : List Int) (v16 : Int) (v17 : List ByteArray) (v18 : Int) (v19 : Int) : Option Yt13 :=
 (bif (decide (v16 < y8.1)) then
 (F_5 v17 v18 v19 (-1000000) 1000000).bind (fun y20 => (apx v15 ([y20.1])).bind (fun z21 => f0 (v9, v10, v11, v12, v13, v14, z21, (IntKind.i64.wrap (v16 + 1)), y20.2.1, y20.2.2.1, y20.2.2.2)))
 else some (.go (v9, v10, v11, v12, v13, v14, v15, v17, v18, v19)))
@[simp] noncomputable def J_10 (v26 : Int) (v27 : ByteArray) (v28 : Int) (v29 : Int) (v30 : Int) (v31 : Bool) (v32 : List Int) (v33 : List ByteArray) (v34 : Int) (v35 : Int) : Option (SNode × Yt4 × Int × Int) :=
 some ((v26, (v27, (v28, (v29, (v30, (v31, (v32, ()))))))), v33, v34, v35)
theorem U_10 (a0x0 : List ByteArray) (a0x1 : Int) (a0x2 : Int) : Le ((F_l).bind (fun y1 => (F_d a0x0 a0x1 a0x2 y1).bind (fun y2 => joinK ((bif (y2.1 == 0) then
 (F_18 y2.2.1 y2.2.2.1 y2.2.2.2 y2.1 ByteArray.empty 0 0 0 false ([])).bind (fun y3 => some (.go (y3.2.2.2.1, y3.2.2.2.2.1, y3.2.2.2.2.2.1, y3.2.2.2.2.2.2.1, y3.2.2.2.2.2.2.2.1, y3.2.2.2.2.2.2.2.2.1, y3.2.2.2.2.2.2.2.2.2, y3.1, y3.2.1, y3.2.2.1)))
 else (bif (y2.1 == 1) then
 (F_5 y2.2.1 y2.2.2.1 y2.2.2.2 (-1000000) 1000000).bind (fun y4 => (F_m).bind (fun y5 => (F_d y4.2.1 y4.2.2.1 y4.2.2.2 y5).bind (fun y6 => (bif (y6.1 != 3) then
 (F_c y6.2.1 y6.2.2.1 y6.2.2.2).bind (fun y7 => some (.go (y2.1, ByteArray.empty, y4.1, y6.1, y7.1, y7.2.1, [], y7.2.2.1, y7.2.2.2.1, y7.2.2.2.2)))
 else some (.go (y2.1, ByteArray.empty, y4.1, y6.1, 0, false, [], y6.2.1, y6.2.2.1, y6.2.2.2))))))
 else (bif (y2.1 == 2) then
 (F_5 y2.2.1 y2.2.2.1 y2.2.2.2 1 6).bind (fun y8 => loopF (fun f s => L_0 y8 f s.1 s.2.1 s.2.2.1 s.2.2.2.1 s.2.2.2.2.1 s.2.2.2.2.2.1 s.2.2.2.2.2.2.1 s.2.2.2.2.2.2.2.1 s.2.2.2.2.2.2.2.2.1 s.2.2.2.2.2.2.2.2.2.1 s.2.2.2.2.2.2.2.2.2.2) (y2.1, ByteArray.empty, 0, 0, 0, false, [], 0, y8.2.1, y8.2.2.1, y8.2.2.2))
 else (bif (y2.1 == 3) then
 (F_5 y2.2.1 y2.2.2.1 y2.2.2.2 (-1000000) 1000000).bind (fun y22 => (F_5 y22.2.1 y22.2.2.1 y22.2.2.2 (-1000000) 1000000).bind (fun y23 => some (.go (y2.1, ByteArray.empty, y22.1, 0, y23.1, false, [], y23.2.1, y23.2.2.1, y23.2.2.2))))
 else (bif (y2.1 == 5) then
 (F_5 y2.2.1 y2.2.2.1 y2.2.2.2 (-1000000) 1000000).bind (fun y24 => some (.go (y2.1, ByteArray.empty, y24.1, 0, 0, false, [], y24.2.1, y24.2.2.1, y24.2.2.2)))
 else (bif (y2.1 == 6) then
 (F_c y2.2.1 y2.2.2.1 y2.2.2.2).bind (fun y25 => some (.go (y2.1, ByteArray.empty, 0, 0, y25.1, y25.2.1, [], y25.2.2.1, y25.2.2.2.1, y25.2.2.2.2)))
 else some (.go (y2.1, ByteArray.empty, 0, 0, 0, false, [], y2.2.1, y2.2.2.1, y2.2.2.2)))))))))
 (fun s => J_10 s.1 s.2.1 s.2.2.1 s.2.2.2.1 s.2.2.2.2.1 s.2.2.2.2.2.1 s.2.2.2.2.2.2.1 s.2.2.2.2.2.2.2.1 s.2.2.2.2.2.2.2.2.1 s.2.2.2.2.2.2.2.2.2)))) (F_1c a0x0 a0x1 a0x2) := callL_le (tt := tt) (FT := FT) (SP := SP) (j := 29) rfl (by kernel_rfl)
theorem U_t : Le (some ([(⟨#[115, 99, 97, 110]⟩ : ByteArray), (⟨#[102, 105, 108, 116, 101, 114]⟩ : ByteArray), (⟨#[107, 101, 101, 112]⟩ : ByteArray), (⟨#[106, 111, 105, 110]⟩ : ByteArray), (⟨#[98, 111, 116, 104]⟩ : ByteArray), (⟨#[115, 111, 114, 116]⟩ : ByteArray), (⟨#[108, 105, 109, 105, 116]⟩ : ByteArray), (⟨#[111, 110, 99, 101]⟩ : ByteArray)])) (F_l) := callL_le (tt := tt) (FT := FT) (SP := SP) (j := 30) rfl (by kernel_rfl)
theorem U_9 (a0x0 : List ByteArray) (a0x1 : Int) (a0x2 : Int) (a1 : List ByteArray) : Le ((F_1b a0x0 a0x1 a0x2 a1 (-1)).bind (fun y1 => some (y1.2.2.2.2, y1.1, y1.2.1, y1.2.2.1))) (F_d a0x0 a0x1 a0x2 a1) := callL_le (tt := tt) (FT := FT) (SP := SP) (j := 31) rfl (by kernel_rfl)
@[simp] noncomputable def J_z (a0x0 : List ByteArray) (a0x1 : Int) (a0x2 : Int) (v3 : Bool) (v4 : List ByteArray) (v5 : Int) : Option (Yt4 × Int × Int × Yt4 × Int) :=
 (bif v3 then
 some (a0x0, a0x1, a0x1, v4, v5)
 else some (a0x0, (IntKind.i64.wrap (a0x1 + 1)), a0x2, v4, v5))
theorem U_5 (a0x0 : List ByteArray) (a0x1 : Int) (a0x2 : Int) (a1x0x0 : List ByteArray) (a1x1x0 : Int) : Le ((bif (decide (a0x2 ≥ 0)) then
 some (a0x0, a0x1, a0x2, a1x0x0, a1x1x0)
 else joinK ((bif (a0x1 == (a0x0.length : Int)) then
 some (.go (true, a1x0x0, a1x1x0))
 else (ix a0x0 a0x1).bind (fun z1 => (F_1f z1 a1x0x0 a1x1x0).bind (fun y2 => some (.go ((!y2.1), y2.2.1, y2.2.2))))))
 (fun s => J_z a0x0 a0x1 a0x2 s.1 s.2.1 s.2.2))) (F_1b a0x0 a0x1 a0x2 a1x0x0 a1x1x0) := callL_le (tt := tt) (FT := FT) (SP := SP) (j := 32) rfl (by kernel_rfl)
theorem U_13 (a0 : ByteArray) (c0x0 : List ByteArray) (c1x0 : Int) : Le ((F_1m c0x0 a0).bind (fun y1 => some ((decide (y1 ≥ 0)), c0x0, y1))) (F_1f a0 c0x0 c1x0) := callL_le (tt := tt) (FT := FT) (SP := SP) (j := 33) rfl (by kernel_rfl)
noncomputable def L_c (a0 : List ByteArray) (a1 : ByteArray) (f0 : (Int × Int) → Option (Ex Int Int)) (v1 : Int) (v2 : Int) : Option (Ex Int Int) :=
 (bif (decide (v2 < (a0.length : Int))) then
 (ix a0 v2).bind (fun z3 => (bif (a1.toList == z3.toList) then
 some (.ret v2)
 else f0 (v1, (IntKind.i64.wrap (v2 + 1)))))
 else some (.go v1))
@[simp] noncomputable def J_1q (v4 : Int) : Option Int :=
 some (-1)
theorem U_1a (a0 : List ByteArray) (a1 : ByteArray) : Le (joinK (loopF (fun f s => L_c a0 a1 f s.1 s.2) (0, 0))
 (fun s => J_1q s)) (F_1m a0 a1) := callL_le (tt := tt) (FT := FT) (SP := SP) (j := 34) rfl (by kernel_rfl)
@[simp] noncomputable def J_x (a0x0 : List ByteArray) (a0x1 : Int) (a0x2 : Int) (v3 : Bool) (v4 : Int) (v5 : ByteArray) (v6 : Int) (v7 : Int) (v8 : Int) (v9 : Bool) (v10 : List Int) : Option (Yt4 × Int × Int × Int × ByteArray × Int × Int × Int × Bool × (List Int)) :=
 (bif v3 then
 some (a0x0, a0x1, a0x1, v4, v5, v6, v7, v8, v9, v10)
 else some (a0x0, (IntKind.i64.wrap (a0x1 + 1)), a0x2, v4, v5, v6, v7, v8, v9, v10))
theorem U_z (a0x0 : List ByteArray) (a0x1 : Int) (a0x2 : Int) (a1x0x0 : Int) (a1x0x1 : ByteArray) (a1x0x2 : Int) (a1x0x3 : Int) (a1x0x4 : Int) (a1x0x5 : Bool) (a1x0x6 : List Int) : Le ((bif (decide (a0x2 ≥ 0)) then
 some (a0x0, a0x1, a0x2, a1x0x0, a1x0x1, a1x0x2, a1x0x3, a1x0x4, a1x0x5, a1x0x6)
 else joinK ((bif (a0x1 == (a0x0.length : Int)) then
 some (.go (true, a1x0x0, a1x0x1, a1x0x2, a1x0x3, a1x0x4, a1x0x5, a1x0x6))
 else (ix a0x0 a0x1).bind (fun z1 => (F_1d z1 a1x0x0 a1x0x1 a1x0x2 a1x0x3 a1x0x4 a1x0x5 a1x0x6).bind (fun y2 => some (.go ((!y2.1), y2.2.1, y2.2.2.1, y2.2.2.2.1, y2.2.2.2.2.1, y2.2.2.2.2.2.1, y2.2.2.2.2.2.2.1, y2.2.2.2.2.2.2.2))))))
 (fun s => J_x a0x0 a0x1 a0x2 s.1 s.2.1 s.2.2.1 s.2.2.2.1 s.2.2.2.2.1 s.2.2.2.2.2.1 s.2.2.2.2.2.2.1 s.2.2.2.2.2.2.2))) (F_18 a0x0 a0x1 a0x2 a1x0x0 a1x0x1 a1x0x2 a1x0x3 a1x0x4 a1x0x5 a1x0x6) := callL_le (tt := tt) (FT := FT) (SP := SP) (j := 35) rfl (by kernel_rfl)
theorem U_11 (a0 : ByteArray) (c0x0 : Int) (c0x1 : ByteArray) (c0x2 : Int) (c0x3 : Int) (c0x4 : Int) (c0x5 : Bool) (c0x6 : List Int) : Le ((F_i a0).bind (fun y1 => some (y1, c0x0, a0, c0x2, c0x3, c0x4, c0x5, c0x6))) (F_1d a0 c0x0 c0x1 c0x2 c0x3 c0x4 c0x5 c0x6) := callL_le (tt := tt) (FT := FT) (SP := SP) (j := 36) rfl (by kernel_rfl)
@[simp] noncomputable def J_w (v1 : Bool) (v2 : Int) (f0 : (Bool × Int) → Option Yt7) (v5 : Bool) : Option Yt7 :=
 (bif v5 then
 some (.ret false)
 else f0 (v1, (IntKind.i64.wrap (v2 + 1))))
@[simp] noncomputable def J_v (v1 : Bool) (v2 : Int) (z3 : Int) (f0 : (Bool × Int) → Option Yt7) (v4 : Bool) : Option Yt7 :=
 joinK ((bif (!v4) then
 (bif (v2 == 0) then
 some (.go true)
 else (bif (decide (z3 < 48)) then
 some (.go true)
 else some (.go (decide (z3 > 57)))))
 else some (.go false)))
 (fun s => J_w v1 v2 f0 s)
noncomputable def L_8 (a0 : ByteArray) (f0 : (Bool × Int) → Option Yt7) (v1 : Bool) (v2 : Int) : Option Yt7 :=
 (bif (decide (v2 < (a0.size : Int))) then
 (bix a0 v2).bind (fun z3 => joinK ((bif (decide (z3 ≥ 97)) then
 some (.go (decide (z3 ≤ 122)))
 else some (.go false)))
 (fun s => J_v v1 v2 z3 f0 s))
 else some (.go v1))
@[simp] noncomputable def J_1i (a0 : ByteArray) (v6 : Bool) : Option Bool :=
 (F_3 (a0.size : Int) 1 12).bind (fun y7 => some y7)
theorem U_n (a0 : ByteArray) : Le (joinK (loopF (fun f s => L_8 a0 f s.1 s.2) (false, 0))
 (fun s => J_1i a0 s)) (F_i a0) := callL_le (tt := tt) (FT := FT) (SP := SP) (j := 37) rfl (by kernel_rfl)
@[simp] noncomputable def J_1j (v1 : Bool) : Option Bool :=
 some v1
theorem U_p (a0 : Int) (a1 : Int) (a2 : Int) : Le (joinK ((bif (decide (a0 ≥ a1)) then
 some (.go (decide (a0 ≤ a2)))
 else some (.go false)))
 (fun s => J_1j s)) (F_3 a0 a1 a2) := callL_le (tt := tt) (FT := FT) (SP := SP) (j := 38) rfl (by kernel_rfl)
theorem U_6 (a0x0 : List ByteArray) (a0x1 : Int) (a0x2 : Int) (a1 : Int) (a2 : Int) : Le ((F_1a a0x0 a0x1 a0x2 0 a1 a2).bind (fun y1 => some (y1.2.2.2.1, y1.1, y1.2.1, y1.2.2.1))) (F_5 a0x0 a0x1 a0x2 a1 a2) := callL_le (tt := tt) (FT := FT) (SP := SP) (j := 39) rfl (by kernel_rfl)
@[simp] noncomputable def J_y (a0x0 : List ByteArray) (a0x1 : Int) (a0x2 : Int) (v3 : Bool) (v4 : Int) (v5 : Int) (v6 : Int) : Option (Yt4 × Int × Int × Int × Int × Int) :=
 (bif v3 then
 some (a0x0, a0x1, a0x1, v4, v5, v6)
 else some (a0x0, (IntKind.i64.wrap (a0x1 + 1)), a0x2, v4, v5, v6))
theorem U_4 (a0x0 : List ByteArray) (a0x1 : Int) (a0x2 : Int) (a1x0x0 : Int) (a1x1x0 : Int) (a1x2x0 : Int) : Le ((bif (decide (a0x2 ≥ 0)) then
 some (a0x0, a0x1, a0x2, a1x0x0, a1x1x0, a1x2x0)
 else joinK ((bif (a0x1 == (a0x0.length : Int)) then
 some (.go (true, a1x0x0, a1x1x0, a1x2x0))
 else (ix a0x0 a0x1).bind (fun z1 => (F_1e z1 a1x0x0 a1x1x0 a1x2x0).bind (fun y2 => some (.go ((!y2.1), y2.2.1, y2.2.2.1, y2.2.2.2))))))
 (fun s => J_y a0x0 a0x1 a0x2 s.1 s.2.1 s.2.2.1 s.2.2.2))) (F_1a a0x0 a0x1 a0x2 a1x0x0 a1x1x0 a1x2x0) := callL_le (tt := tt) (FT := FT) (SP := SP) (j := 40) rfl (by kernel_rfl)
@[simp] noncomputable def J_1m (c1x0 : Int) (c2x0 : Int) (y1 : Yt14) (v3 : Bool) : Option (Bool × Int × Int × Int) :=
 some (v3, y1.1, c1x0, c2x0)
theorem U_12 (a0 : ByteArray) (c0x0 : Int) (c1x0 : Int) (c2x0 : Int) : Le ((F_n a0).bind (fun y1 => joinK ((bif y1.2 then
 (F_3 y1.1 c1x0 c2x0).bind (fun y2 => some (.go y2))
 else some (.go false)))
 (fun s => J_1m c1x0 c2x0 y1 s))) (F_1e a0 c0x0 c1x0 c2x0) := callL_le (tt := tt) (FT := FT) (SP := SP) (j := 41) rfl (by kernel_rfl)
theorem U_w (a0 : ByteArray) : Le (readF a0) (F_n a0) := callL_sp (tt := tt) (FT := FT) (SP := SP) (j := 42) (v := (show InVals (FT 42) from ((a0, ()), (())))) (f := fun v => readF v.1.1) rfl
theorem U_v : Le (some ([(⟨#[61]⟩ : ByteArray), (⟨#[60]⟩ : ByteArray), (⟨#[62]⟩ : ByteArray), (⟨#[110, 111, 110, 101]⟩ : ByteArray)])) (F_m) := callL_le (tt := tt) (FT := FT) (SP := SP) (j := 43) rfl (by kernel_rfl)
theorem U_7 (a0x0 : List ByteArray) (a0x1 : Int) (a0x2 : Int) : Le ((F_19 a0x0 a0x1 a0x2 0 false).bind (fun y1 => some (y1.2.2.2.1, y1.2.2.2.2, y1.1, y1.2.1, y1.2.2.1))) (F_c a0x0 a0x1 a0x2) := callL_le (tt := tt) (FT := FT) (SP := SP) (j := 44) rfl (by kernel_rfl)
@[simp] noncomputable def J_e (a0x0 : List ByteArray) (a0x1 : Int) (a0x2 : Int) (v3 : Bool) (v4 : Int) (v5 : Bool) : Option (Yt4 × Int × Int × Int × Bool) :=
 (bif v3 then
 some (a0x0, a0x1, a0x1, v4, v5)
 else some (a0x0, (IntKind.i64.wrap (a0x1 + 1)), a0x2, v4, v5))
theorem U_3 (a0x0 : List ByteArray) (a0x1 : Int) (a0x2 : Int) (a1x0x0 : Int) (a1x1x0 : Bool) : Le ((bif (decide (a0x2 ≥ 0)) then
 some (a0x0, a0x1, a0x2, a1x0x0, a1x1x0)
 else joinK ((bif (a0x1 == (a0x0.length : Int)) then
 some (.go (true, a1x0x0, a1x1x0))
 else (ix a0x0 a0x1).bind (fun z1 => (F_p z1 a1x0x0 a1x1x0).bind (fun y2 => some (.go ((!y2.1), y2.2.1, y2.2.2))))))
 (fun s => J_e a0x0 a0x1 a0x2 s.1 s.2.1 s.2.2))) (F_19 a0x0 a0x1 a0x2 a1x0x0 a1x1x0) := callL_le (tt := tt) (FT := FT) (SP := SP) (j := 45) rfl (by kernel_rfl)
@[simp] noncomputable def J_1l (a0 : ByteArray) (y1 : ByteArray) (y2 : Yt14) (v3 : Bool) : Option (Bool × Int × Bool) :=
 some (v3, y2.1, (!(y1.toList == a0.toList)))
theorem U_8 (a0 : ByteArray) (c0x0 : Int) (c1x0 : Bool) : Le ((F_1x a0 (⟨#[36]⟩ : ByteArray)).bind (fun y1 => (F_n y1).bind (fun y2 => joinK ((bif y2.2 then
 (bif (!(!(y1.toList == a0.toList))) then
 some (.go true)
 else some (.go (decide (y2.1 ≥ 0))))
 else some (.go false)))
 (fun s => J_1l a0 y1 y2 s)))) (F_p a0 c0x0 c1x0) := callL_le (tt := tt) (FT := FT) (SP := SP) (j := 46) rfl (by kernel_rfl)
theorem U_1x (a0 : ByteArray) (a1 : ByteArray) : Le (trimF a0 a1) (F_1x a0 a1) := callL_sp (tt := tt) (FT := FT) (SP := SP) (j := 47) (v := (show InVals (FT 47) from ((a0, a1, ()), (())))) (f := fun v => trimF v.1.1 v.1.2.1) rfl
@[simp] noncomputable def J_1g (v2 : Bool) : Option Int :=
 (bif v2 then
 some 1
 else some (-1))
@[simp] noncomputable def J_1f (a0 : Int) (v1 : Bool) : Option Int :=
 (bif v1 then
 some 2
 else joinK ((bif (a0 == 1) then
 some (.go true)
 else (bif (a0 == 2) then
 some (.go true)
 else (bif (a0 == 5) then
 some (.go true)
 else (bif (a0 == 6) then
 some (.go true)
 else some (.go (a0 == 7)))))))
 (fun s => J_1g s))
theorem U_c (a0 : Int) : Le ((bif (a0 == 0) then
 some 0
 else joinK ((bif (a0 == 3) then
 some (.go true)
 else some (.go (a0 == 4))))
 (fun s => J_1f a0 s))) (F_f a0) := callL_le (tt := tt) (FT := FT) (SP := SP) (j := 48) rfl (by kernel_rfl)
@[simp] noncomputable def J_t (a0 : List SNode) (v3 : Bool) : Option Bool :=
 (bif v3 then
 some false
 else (F_j a0 0 1).bind (fun y4 => some (y4 == (a0.length : Int))))
theorem U_j (a0 : List SNode) : Le (joinK ((F_3 (a0.length : Int) 1 40).bind (fun y1 => (bif (!y1) then
 some (.go true)
 else (F_1h a0).bind (fun y2 => some (.go y2)))))
 (fun s => J_t a0 s)) (F_h a0) := callL_le (tt := tt) (FT := FT) (SP := SP) (j := 49) rfl (by kernel_rfl)
theorem U_15 (a0 : List SNode) : Le ((F_1k a0).bind (fun y1 => some (decide (y1 ≥ 0)))) (F_1h a0) := callL_le (tt := tt) (FT := FT) (SP := SP) (j := 50) rfl (by kernel_rfl)
noncomputable def L_a (a0 : List SNode) (f0 : (Int × Int) → Option (Ex Int Int)) (v1 : Int) (v2 : Int) : Option (Ex Int Int) :=
 (bif (decide (v2 < (a0.length : Int))) then
 (ix a0 v2).bind (fun z3 => (F_12 z3).bind (fun y4 => (bif y4 then
 some (.ret v2)
 else f0 (v1, (IntKind.i64.wrap (v2 + 1))))))
 else some (.go v1))
@[simp] noncomputable def J_1o (v5 : Int) : Option Int :=
 some (-1)
theorem U_18 (a0 : List SNode) : Le (joinK (loopF (fun f s => L_a a0 f s.1 s.2) (0, 0))
 (fun s => J_1o s)) (F_1k a0) := callL_le (tt := tt) (FT := FT) (SP := SP) (j := 51) rfl (by kernel_rfl)
theorem U_k (a0 : SNode) : Le ((F_b (a0.1, (a0.2.1, (a0.2.2.1, (a0.2.2.2.1, (a0.2.2.2.2.1, (a0.2.2.2.2.2.1, (a0.2.2.2.2.2.2.1, ())))))))).bind (fun y1 => some (!y1))) (F_12 a0) := callL_le (tt := tt) (FT := FT) (SP := SP) (j := 52) rfl (by kernel_rfl)
@[simp] noncomputable def J_n (a0 : SNode) (v7 : Bool) : Option Yt6 :=
 some (.go (0, a0.2.1, 0, 0, 0, false, a0.2.2.2.2.2.2.1, v7))
@[simp] noncomputable def J_m (a0 : SNode) (v4 : Bool) : Option Yt6 :=
 joinK ((bif (a0.2.2.2.1 == 3) then
 (bif v4 then
 (bif (a0.2.2.2.2.1 == 0) then
 some (.go (!a0.2.2.2.2.2.1))
 else some (.go false))
 else some (.go false))
 else (bif a0.2.2.2.2.2.1 then
 (bif v4 then
 (F_k a0.2.2.2.2.1).bind (fun y5 => some (.go y5))
 else some (.go false))
 else (bif v4 then
 (F_16 a0.2.2.2.2.1).bind (fun y6 => some (.go y6))
 else some (.go false)))))
 (fun s => J_n a0 s)
@[simp] noncomputable def J_o (a0 : SNode) (v10 : Bool) : Option Yt6 :=
 some (.go (0, a0.2.1, a0.2.2.1, a0.2.2.2.1, a0.2.2.2.2.1, a0.2.2.2.2.2.1, [], v10))
@[simp] noncomputable def J_p (a0 : SNode) (v13 : Bool) : Option Yt6 :=
 some (.go (0, a0.2.1, 0, a0.2.2.2.1, 0, a0.2.2.2.2.2.1, a0.2.2.2.2.2.2.1, v13))
@[simp] noncomputable def J_q (a0 : SNode) (v17 : Bool) : Option Yt6 :=
 some (.go (0, a0.2.1, a0.2.2.1, a0.2.2.2.1, 0, false, a0.2.2.2.2.2.2.1, v17))
@[simp] noncomputable def J_r (a0 : SNode) (v18 : Bool) : Option Yt6 :=
 (bif v18 then
 some (.go (0, a0.2.1, a0.2.2.1, a0.2.2.2.1, a0.2.2.2.2.1, a0.2.2.2.2.2.1, a0.2.2.2.2.2.2.1, true))
 else some (.go (0, a0.2.1, a0.2.2.1, a0.2.2.2.1, a0.2.2.2.2.1, a0.2.2.2.2.2.1, a0.2.2.2.2.2.2.1, false)))
@[simp] noncomputable def J_1h (v28 : Bool) : Option Bool :=
 some v28
@[simp] noncomputable def J_0 (v19 : Int) (v20 : ByteArray) (v21 : Int) (v22 : Int) (v23 : Int) (v24 : Bool) (v25 : List Int) (v26 : Bool) : Option Bool :=
 joinK ((bif v26 then
 (F_17 (v19, (v20, (v21, (v22, (v23, (v24, (v25, ()))))))) (0, (ByteArray.empty, (0, (0, (0, (false, ([], ())))))))).bind (fun y27 => some (.go y27))
 else some (.go false)))
 (fun s => J_1h s)
theorem U_e (a0 : SNode) : Le (joinK ((bif (a0.1 == 0) then
 (F_i a0.2.1).bind (fun y1 => some (.go (0, ByteArray.empty, a0.2.2.1, a0.2.2.2.1, a0.2.2.2.2.1, a0.2.2.2.2.2.1, a0.2.2.2.2.2.2.1, y1)))
 else (bif (a0.1 == 1) then
 joinK ((F_8 a0.2.2.1).bind (fun y2 => (bif y2 then
 (F_3 a0.2.2.2.1 0 3).bind (fun y3 => some (.go y3))
 else some (.go false))))
 (fun s => J_m a0 s)
 else (bif (a0.1 == 2) then
 joinK ((F_3 (a0.2.2.2.2.2.2.1.length : Int) 1 6).bind (fun y8 => (bif y8 then
 (F_1i a0.2.2.2.2.2.2.1).bind (fun y9 => some (.go (!y9)))
 else some (.go false))))
 (fun s => J_o a0 s)
 else (bif (a0.1 == 3) then
 joinK ((F_8 a0.2.2.1).bind (fun y11 => (bif y11 then
 (F_8 a0.2.2.2.2.1).bind (fun y12 => some (.go y12))
 else some (.go false))))
 (fun s => J_p a0 s)
 else (bif (a0.1 == 5) then
 (F_8 a0.2.2.1).bind (fun y14 => some (.go (0, a0.2.1, 0, a0.2.2.2.1, a0.2.2.2.2.1, a0.2.2.2.2.2.1, a0.2.2.2.2.2.2.1, y14)))
 else (bif (a0.1 == 6) then
 joinK ((F_3 a0.2.2.2.2.1 0 1000000).bind (fun y15 => (bif y15 then
 (bif (!a0.2.2.2.2.2.1) then
 some (.go true)
 else (F_k a0.2.2.2.2.1).bind (fun y16 => some (.go y16)))
 else some (.go false))))
 (fun s => J_q a0 s)
 else joinK ((bif (a0.1 == 4) then
 some (.go true)
 else some (.go (a0.1 == 7))))
 (fun s => J_r a0 s))))))))
 (fun s => J_0 s.1 s.2.1 s.2.2.1 s.2.2.2.1 s.2.2.2.2.1 s.2.2.2.2.2.1 s.2.2.2.2.2.2.1 s.2.2.2.2.2.2.2)) (F_b a0) := callL_le (tt := tt) (FT := FT) (SP := SP) (j := 53) rfl (by kernel_rfl)
theorem U_q (a0 : Int) : Le ((F_3 a0 0 63).bind (fun y1 => some y1)) (F_8 a0) := callL_le (tt := tt) (FT := FT) (SP := SP) (j := 54) rfl (by kernel_rfl)
theorem U_s (a0 : Int) : Le ((F_3 a0 0 39).bind (fun y1 => some y1)) (F_k a0) := callL_le (tt := tt) (FT := FT) (SP := SP) (j := 55) rfl (by kernel_rfl)
theorem U_r (a0 : Int) : Le ((F_3 a0 (-1000000) 1000000).bind (fun y1 => some y1)) (F_16 a0) := callL_le (tt := tt) (FT := FT) (SP := SP) (j := 56) rfl (by kernel_rfl)
theorem U_16 (a0 : List Int) : Le ((F_1l a0).bind (fun y1 => some (decide (y1 ≥ 0)))) (F_1i a0) := callL_le (tt := tt) (FT := FT) (SP := SP) (j := 57) rfl (by kernel_rfl)
noncomputable def L_b (a0 : List Int) (f0 : (Int × Int) → Option (Ex Int Int)) (v1 : Int) (v2 : Int) : Option (Ex Int Int) :=
 (bif (decide (v2 < (a0.length : Int))) then
 (ix a0 v2).bind (fun z3 => (F_z z3).bind (fun y4 => (bif y4 then
 some (.ret v2)
 else f0 (v1, (IntKind.i64.wrap (v2 + 1))))))
 else some (.go v1))
@[simp] noncomputable def J_1p (v5 : Int) : Option Int :=
 some (-1)
theorem U_19 (a0 : List Int) : Le (joinK (loopF (fun f s => L_b a0 f s.1 s.2) (0, 0))
 (fun s => J_1p s)) (F_1l a0) := callL_le (tt := tt) (FT := FT) (SP := SP) (j := 58) rfl (by kernel_rfl)
theorem U_f (a0 : Int) : Le ((F_8 a0).bind (fun y1 => some (!y1))) (F_z a0) := callL_le (tt := tt) (FT := FT) (SP := SP) (j := 59) rfl (by kernel_rfl)
@[simp] noncomputable def J_1k (v2 : Bool) : Option Bool :=
 some v2
theorem U_x (a0 : SNode) (a1 : SNode) : Le (joinK ((bif (a0.1 == a1.1) then
 (bif (a0.2.1.toList == a1.2.1.toList) then
 (bif (a0.2.2.1 == a1.2.2.1) then
 (bif (a0.2.2.2.1 == a1.2.2.2.1) then
 (bif (a0.2.2.2.2.1 == a1.2.2.2.2.1) then
 (bif (a0.2.2.2.2.2.1 == a1.2.2.2.2.2.1) then
 (F_1j a0.2.2.2.2.2.2.1 a1.2.2.2.2.2.2.1).bind (fun y1 => some (.go y1))
 else some (.go false))
 else some (.go false))
 else some (.go false))
 else some (.go false))
 else some (.go false))
 else some (.go false)))
 (fun s => J_1k s)) (F_17 a0 a1) := callL_le (tt := tt) (FT := FT) (SP := SP) (j := 60) rfl (by kernel_rfl)
noncomputable def L_9 (a0 : List Int) (a1 : List Int) (f0 : (Bool × Int) → Option Yt7) (v1 : Bool) (v2 : Int) : Option Yt7 :=
 (bif (decide (v2 < (a0.length : Int))) then
 (ix a0 v2).bind (fun z3 => (ix a1 v2).bind (fun z4 => (bif (z3 != z4) then
 some (.ret false)
 else f0 (v1, (IntKind.i64.wrap (v2 + 1))))))
 else some (.go v1))
@[simp] noncomputable def J_1n (v5 : Bool) : Option Bool :=
 some true
theorem U_17 (a0 : List Int) (a1 : List Int) : Le ((bif ((a0.length : Int) != (a1.length : Int)) then
 some false
 else joinK (loopF (fun f s => L_9 a0 a1 f s.1 s.2) (false, 0))
 (fun s => J_1n s))) (F_1j a0 a1) := callL_le (tt := tt) (FT := FT) (SP := SP) (j := 61) rfl (by kernel_rfl)
noncomputable def L_2 (a0 : List SNode) (a2 : Int) (y3 : Int) (f0 : (Int × Int × Int) → Option (Ex Int (Int × Int))) (v4 : Int) (v5 : Int) (v6 : Int) : Option (Ex Int (Int × Int)) :=
 (bif (decide (v6 < y3)) then
 (F_j a0 v5 (IntKind.i64.wrap (a2 + 1))).bind (fun y7 => (bif (decide (y7 < 0)) then
 some (.ret (-1))
 else f0 (v4, y7, (IntKind.i64.wrap (v6 + 1)))))
 else some (.go (v4, v5)))
@[simp] noncomputable def J_7 (v8 : Int) (v9 : Int) : Option Int :=
 some v9
@[simp] noncomputable def J_d (a0 : List SNode) (a1 : Int) (a2 : Int) (v1 : Bool) : Option Int :=
 (bif v1 then
 some (-1)
 else joinK ((ix a0 a1).bind (fun z2 => (F_f z2.1).bind (fun y3 => loopF (fun f s => L_2 a0 a2 y3 f s.1 s.2.1 s.2.2) (0, (IntKind.i64.wrap (a1 + 1)), 0))))
 (fun s => J_7 s.1 s.2))
theorem U_2 (a0 : List SNode) (a1 : Int) (a2 : Int) : Le (joinK ((bif (decide (a1 ≥ (a0.length : Int))) then
 some (.go true)
 else some (.go (decide (a2 > 10)))))
 (fun s => J_d a0 a1 a2 s)) (F_j a0 a1 a2) := callL_le (tt := tt) (FT := FT) (SP := SP) (j := 62) rfl (by kernel_rfl)
noncomputable def L_7 (a0 : List SNode) (f0 : (Yt4 × Int) → Option (Ex ByteArray Yt4)) (v2 : List ByteArray) (v3 : Int) : Option (Ex ByteArray Yt4) :=
 (bif (decide (v3 < (a0.length : Int))) then
 (ix a0 v3).bind (fun z4 => (F_10 (z4.1, (z4.2.1, (z4.2.2.1, (z4.2.2.2.1, (z4.2.2.2.2.1, (z4.2.2.2.2.2.1, (z4.2.2.2.2.2.2.1, ())))))))).bind (fun y5 => (apx v2 ([y5])).bind (fun z6 => f0 (z6, (IntKind.i64.wrap (v3 + 1))))))
 else some (.go v2))
@[simp] noncomputable def J_u (v7 : List ByteArray) : Option ByteArray :=
 (F_o v7).bind (fun y8 => some y8.1)
theorem U_l (a0 : List SNode) : Le ((F_h a0).bind (fun y1 => (bif (!y1) then
 some ByteArray.empty
 else joinK (loopF (fun f s => L_7 a0 f s.1 s.2) ([], 0))
 (fun s => J_u s)))) (F_13 a0) := callL_le (tt := tt) (FT := FT) (SP := SP) (j := 63) rfl (by kernel_rfl)
noncomputable def L_h (a0 : SNode) (f0 : (Yt4 × Int) → Option (Ex ByteArray Yt4)) (v13 : List ByteArray) (v14 : Int) : Option (Ex ByteArray Yt4) :=
 (bif (decide (v14 < (a0.2.2.2.2.2.2.1.length : Int))) then
 (ix a0.2.2.2.2.2.2.1 v14).bind (fun z15 => (F_4 z15).bind (fun y16 => (apx v13 ([y16])).bind (fun z17 => f0 (z17, (IntKind.i64.wrap (v14 + 1))))))
 else some (.go v13))
@[simp] noncomputable def J_c (v25 : List ByteArray) : Option ByteArray :=
 (F_o v25).bind (fun y26 => some y26.1)
theorem U_g (a0 : SNode) : Le ((F_b (a0.1, (a0.2.1, (a0.2.2.1, (a0.2.2.2.1, (a0.2.2.2.2.1, (a0.2.2.2.2.2.1, (a0.2.2.2.2.2.2.1, ())))))))).bind (fun y1 => (bif (!y1) then
 some ByteArray.empty
 else (F_l).bind (fun y2 => (ix y2 a0.1).bind (fun z3 => joinK ((bif (a0.1 == 0) then
 (apx ([z3]) ([a0.2.1])).bind (fun z4 => some (.go z4))
 else (bif (a0.1 == 1) then
 (F_4 a0.2.2.1).bind (fun y5 => (F_m).bind (fun y6 => (ix y6 a0.2.2.2.1).bind (fun z7 => (apx ([z3]) ([y5, z7])).bind (fun z8 => (bif (a0.2.2.2.1 != 3) then
 (F_g (a0.1, (a0.2.1, (a0.2.2.1, (a0.2.2.2.1, (a0.2.2.2.2.1, (a0.2.2.2.2.2.1, (a0.2.2.2.2.2.2.1, ())))))))).bind (fun y9 => (apx z8 ([y9])).bind (fun z10 => some (.go z10)))
 else some (.go z8))))))
 else (bif (a0.1 == 2) then
 (F_4 (a0.2.2.2.2.2.2.1.length : Int)).bind (fun y11 => (apx ([z3]) ([y11])).bind (fun z12 => loopF (fun f s => L_h a0 f s.1 s.2) (z12, 0)))
 else (bif (a0.1 == 3) then
 (F_4 a0.2.2.1).bind (fun y18 => (F_4 a0.2.2.2.2.1).bind (fun y19 => (apx ([z3]) ([y18, y19])).bind (fun z20 => some (.go z20))))
 else (bif (a0.1 == 5) then
 (F_4 a0.2.2.1).bind (fun y21 => (apx ([z3]) ([y21])).bind (fun z22 => some (.go z22)))
 else (bif (a0.1 == 6) then
 (F_g (a0.1, (a0.2.1, (a0.2.2.1, (a0.2.2.2.1, (a0.2.2.2.2.1, (a0.2.2.2.2.2.1, (a0.2.2.2.2.2.2.1, ())))))))).bind (fun y23 => (apx ([z3]) ([y23])).bind (fun z24 => some (.go z24)))
 else some (.go [z3]))))))))
 (fun s => J_c s)))))) (F_10 a0) := callL_le (tt := tt) (FT := FT) (SP := SP) (j := 64) rfl (by kernel_rfl)
theorem U_u (a0 : Int) : Le ((F_1u a0).bind (fun y1 => some y1)) (F_4 a0) := callL_le (tt := tt) (FT := FT) (SP := SP) (j := 65) rfl (by kernel_rfl)
theorem U_1u (a0 : Int) : Le (itoaF a0) (F_1u a0) := callL_sp (tt := tt) (FT := FT) (SP := SP) (j := 66) (v := (show InVals (FT 66) from ((a0, ()), (())))) (f := fun v => itoaF v.1.1) rfl
theorem U_h (a0 : SNode) : Le ((bif a0.2.2.2.2.2.1 then
 (F_4 a0.2.2.2.2.1).bind (fun y1 => (addx (⟨#[36]⟩ : ByteArray) y1).bind (fun z2 => some z2))
 else (F_4 a0.2.2.2.2.1).bind (fun y3 => some y3))) (F_g a0) := callL_le (tt := tt) (FT := FT) (SP := SP) (j := 67) rfl (by kernel_rfl)
theorem U_y (a0 : List ByteArray) : Le ((F_1w a0 (⟨#[32]⟩ : ByteArray)).bind (fun y1 => some (y1.1, y1.2))) (F_o a0) := callL_le (tt := tt) (FT := FT) (SP := SP) (j := 68) rfl (by kernel_rfl)
theorem U_1w (a0 : List ByteArray) (a1 : ByteArray) : Le (joinF a0 a1) (F_1w a0 a1) := callL_sp (tt := tt) (FT := FT) (SP := SP) (j := 69) (v := (show InVals (FT 69) from ((a0, a1, ()), (())))) (f := fun v => joinF v.1.1 v.1.2.1) rfl
end Go.Proofs.YtnclgkplpjpnfaaGreatDoorX
