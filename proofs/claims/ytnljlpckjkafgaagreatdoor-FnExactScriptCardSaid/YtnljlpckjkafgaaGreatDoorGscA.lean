/- Printed: for each function that the statement reaches, a plain function, and that it is what the program's function answers. -/
import Derived.Test.YtnljlpckjkafgaaGreatDoorProg
import Derived.Test.YtnljlpckjkafgaaGreatDoorTrscD
set_option linter.all false
namespace Go.Proofs.YtnljlpckjkafgaaGreatDoorX
open Go Go.Proofs Go.Proofs.YtnljlpckjkafgaaGreatDoorT
set_option maxRecDepth 100000
set_option linter.all false
abbrev SNode := Int × ByteArray × Int × Int × Int × Bool × (List Int) × Unit
abbrev SStep := Int × Int × Unit
abbrev SOp := Int × (List SNode) × (List SNode) × (List SStep) × Unit
abbrev Yv2 : Ty := .int .i64
abbrev Yv0 : Ty := .pr Yv2 (.pr .str (.pr Yv2 (.pr Yv2 (.pr Yv2 (.pr .bool (.pr (.sl 3 Yv2) .un))))))
abbrev Yv1 : Ty := .pr Yv2 (.pr Yv2 .un)
abbrev Yv4 : Ty := .pr Yv2 (.pr (.sl 98 Yv0) (.pr (.sl 98 Yv0) (.pr (.sl 105 Yv1) .un)))
abbrev Yv5 : Ty := .sl 9 .str
abbrev Yv6 : Ty := .sl 67 Yv1
abbrev Yv7 : Ty := .sl 71 Yv0
abbrev Yv3 : Ty := .pr Yv2 (.pr Yv7 (.pr Yv7 (.pr Yv6 .un)))
abbrev Yt9 : Type := List ByteArray
abbrev Yt11 : Type := Ex Bool (Int × ByteArray × Int × Int × Int × Bool × (List Int) × Bool)
abbrev Yt12 : Type := Ex Bool Bool
abbrev Yt13 : Type := Ex ByteArray ByteArray
abbrev Yt14 : Type := ByteArray × Bool
abbrev Yt8 : Type := Ex Yt14 (ByteArray × Bool × ByteArray)
abbrev Yt15 : Type := List SStep
abbrev Yt10 : Type := Ex (Yt15 × Bool) (Yt15 × Bool × Yt15)
abbrev Yt16 : Type := Ex (Int × Int) (Int × Int × Int × Int)
abbrev Yt17 : Type := Int × Bool
abbrev Yt18 : Type := ByteArray × Bool × ByteArray × Int
abbrev Yt19 : Type := Bool × Int
abbrev Yl0 : LT := ⟨false, false, .bool⟩
abbrev Yl1 : LT := ⟨false, false, Yv2⟩
abbrev Yl2 : LT := ⟨false, false, .str⟩
abbrev Yl3 : LT := ⟨true, true, Yv5⟩
abbrev Yl4 : LT := ⟨true, true, Yv6⟩
def ttL : List (Nat × Ty) := [(3, Yv2),
 (4, .bool),
 (5, (.int .u8)),
 (9, .str),
 (22, (.sl 98 Yv0)),
 (23, (.sl 105 Yv1)),
 (25, Yv4),
 (29, Yv7),
 (30, Yv6),
 (32, Yv3),
 (36, (.sl 25 Yv4)),
 (39, (.sl 32 Yv3)),
 (43, (.sl 5 (.int .u8))),
 (55, Yv5),
 (67, Yv1),
 (69, (.sl 3 Yv2)),
 (71, Yv0),
 (98, Yv0),
 (105, Yv1)]
def tt (T : TypeId) : Option Ty := lkT ttL T
theorem tt_ok : TTok Tryz.prog tt := lkT_ok (by kernel_rfl)
noncomputable def i_0 : Inst := { f := 4, fn := Tryz.f4, n := 40, pds := [.rd (.sl 25 Yv4)], caps := [], res := [Yl0], h := { al := [23, 35], ca := [(11, 1), (16, 7), (17, 14), (21, 7), (24, 35), (37, 7), (38, 76)], code := (.two .nil (.two .nil (.two .nil (.two .nil (.two .nil (.two .nil (.two .nil (.two (.join ⟨[], [(34, .v Yl0)]⟩ .nil .nil) .nil)))))))) } }
noncomputable def i_13 : Inst := { f := 11, fn := Tryz.f11, n := 27, pds := [.rd (.sl 25 Yv4), .rd Yv2], caps := [], res := [Yl1], h := { ca := [(23, 2)], code := (.two .nil (.two .nil (.two .nil (.join ⟨[1, 4], [(1, .v Yl1), (4, .v Yl1)]⟩ (.two .nil (.loop ⟨[1, 4, 5], [(1, .v Yl1), (4, .v Yl1), (5, .v Yl1)]⟩ .nil)) .nil)))) } }
noncomputable def i_12 : Inst := { f := 6, fn := Tryz.f6, n := 24, pds := [.rd Yv4, .rd Yv2], caps := [], res := [Yl1], h := { ca := [(8, 3), (14, 3), (20, 6)], code := .nil } }
noncomputable def i_11 : Inst := { f := 31, fn := Tryz.f31, n := 27, pds := [.rd (.sl 98 Yv0), .rd Yv2], caps := [], res := [Yl1], h := { ca := [(23, 4)], code := (.two .nil (.two .nil (.two .nil (.join ⟨[1, 4], [(1, .v Yl1), (4, .v Yl1)]⟩ (.two .nil (.loop ⟨[1, 4, 5], [(1, .v Yl1), (4, .v Yl1), (5, .v Yl1)]⟩ .nil)) .nil)))) } }
noncomputable def i_10 : Inst := { f := 66, fn := Tryz.f66, n := 19, pds := [.rd Yv0, .rd Yv2], caps := [], res := [Yl1], h := { ca := [(15, 5)], code := .nil } }
noncomputable def i_z : Inst := { f := 114, fn := Tryz.f114, n := 12, pds := [.rd (.sl 3 Yv2), .rd Yv2], caps := [], res := [Yl1], h := { code := .nil } }
noncomputable def i_14 : Inst := { f := 32, fn := Tryz.f32, n := 12, pds := [.rd (.sl 105 Yv1), .rd Yv2], caps := [], res := [Yl1], h := { code := .nil } }
noncomputable def i_19 : Inst := { f := 13, fn := Tryz.f13, n := 23, pds := [.rd (.sl 25 Yv4)], caps := [], res := [⟨true, true, (.sl 32 Yv3)⟩], h := { al := [14], el := [21], ca := [(20, 8)], code := (.two .nil (.two .nil (.join ⟨[3], [(3, .v ⟨true, true, (.sl 32 Yv3)⟩)]⟩ (.two .nil (.loop ⟨[3, 4], [(3, .v ⟨true, true, (.sl 32 Yv3)⟩), (4, .v Yl1)]⟩ .nil)) .nil))) } }
noncomputable def i_18 : Inst := { f := 8, fn := Tryz.f8, n := 20, pds := [.rd Yv4], caps := [], res := [⟨true, true, Yv3⟩], h := { tk := [19], ca := [(9, 9), (13, 9), (17, 12)], code := .nil } }
noncomputable def i_17 : Inst := { f := 36, fn := Tryz.f36, n := 23, pds := [.rd (.sl 98 Yv0)], caps := [], res := [⟨true, true, Yv7⟩], h := { al := [14], el := [21], ca := [(20, 10)], code := (.two .nil (.two .nil (.join ⟨[3], [(3, .v ⟨true, true, Yv7⟩)]⟩ (.two .nil (.loop ⟨[3, 4], [(3, .v ⟨true, true, Yv7⟩), (4, .v Yl1)]⟩ .nil)) .nil))) } }
noncomputable def i_16 : Inst := { f := 70, fn := Tryz.f70, n := 27, pds := [.rd Yv0], caps := [], res := [⟨true, true, Yv0⟩], h := { tk := [26], ca := [(24, 11)], code := .nil } }
noncomputable def i_15 : Inst := { f := 115, fn := Tryz.f115, n := 22, pds := [.rd (.sl 3 Yv2)], caps := [], res := [⟨true, true, (.sl 3 Yv2)⟩], h := { al := [14], el := [20], code := (.two .nil (.two .nil (.join ⟨[3], [(3, .v ⟨true, true, (.sl 3 Yv2)⟩)]⟩ (.two .nil (.loop ⟨[3, 4], [(3, .v ⟨true, true, (.sl 3 Yv2)⟩), (4, .v Yl1)]⟩ .nil)) .nil))) } }
noncomputable def i_1b : Inst := { f := 37, fn := Tryz.f37, n := 23, pds := [.rd (.sl 105 Yv1)], caps := [], res := [Yl4], h := { al := [14], el := [21], ca := [(20, 13)], code := (.two .nil (.two .nil (.join ⟨[3], [(3, .v Yl4)]⟩ (.two .nil (.loop ⟨[3, 4], [(3, .v Yl4), (4, .v Yl1)]⟩ .nil)) .nil))) } }
noncomputable def i_1a : Inst := { f := 71, fn := Tryz.f71, n := 11, pds := [.rd Yv1], caps := [], res := [⟨false, false, Yv1⟩], h := { code := .nil } }
noncomputable def i_1p : Inst := { f := 12, fn := Tryz.f12, n := 46, pds := [.rd (.sl 32 Yv3)], caps := [], res := [Yl2, Yl0], h := { ca := [(20, 15)], code := (.two .nil (.two .nil (.two .nil (.join ⟨[2, 3, 4, 5], [(2, .v Yl2), (3, .v Yl0), (4, .v Yl2)]⟩ (.two .nil (.loop ⟨[2, 3, 4, 5, 6], [(2, .v Yl2), (3, .v Yl0), (4, .v Yl2), (5, .v Yl1), (6, .v Yl1)]⟩ (.two .nil (.two (.two .nil (.two .nil (.two .nil (.two .nil (.join ⟨[5], [(5, .v Yl1)]⟩ .nil (.join ⟨[], [(44, .v Yl0)]⟩ .nil .nil)))))) .nil)))) .nil)))) } }
noncomputable def i_1l : Inst := { f := 7, fn := Tryz.f7, n := 97, pds := [.rd Yv3], caps := [], res := [Yl2, Yl0], h := { al := [30, 83, 90], ca := [(13, 16), (42, 17), (48, 17), (60, 24), (61, 27), (68, 24), (72, 30), (76, 30)], code := (.two .nil (.two .nil (.two (.two .nil (.two (.two (.join ⟨[], [(29, .v Yl0)]⟩ .nil .nil) .nil) .nil)) (.two (.join ⟨[], [(56, .v Yl0)]⟩ .nil .nil) (.two .nil (.two .nil (.two .nil (.join ⟨[2, 3, 8], [(2, .v Yl2), (3, .v Yl0), (8, .v Yl2)]⟩ (.two .nil (.loop ⟨[2, 3, 8, 9], [(2, .v Yl2), (3, .v Yl0), (8, .v Yl2), (9, .v Yl1)]⟩ .nil)) .nil)))))))) } }
noncomputable def i_1t : Inst := { f := 33, fn := Tryz.f33, n := 15, pds := [.rd Yv2, .rd Yv2, .rd Yv2], caps := [], res := [Yl0], h := { code := (.two .nil (.join ⟨[6], [(6, .v Yl0)]⟩ .nil .nil)) } }
noncomputable def i_1n : Inst := { f := 22, fn := Tryz.f22, n := 31, pds := [.rd Yv7], caps := [], res := [Yl0], h := { ca := [(8, 16), (20, 18), (24, 22)], code := (.two .nil (.two .nil (.join ⟨[2], [(2, .v Yl0)]⟩ (.two .nil (.loop ⟨[2, 3], [(2, .v Yl0), (3, .v Yl1)]⟩ .nil)) .nil))) } }
noncomputable def i_1j : Inst := { f := 51, fn := Tryz.f51, n := 186, pds := [.rd Yv0], caps := [], res := [Yl0], h := { ca := [(39, 16), (49, 19), (69, 20), (73, 16), (78, 21), (109, 20), (114, 16), (134, 20), (138, 20), (149, 20), (168, 16)], code := (.two .nil (.two (.join ⟨[], [(42, .v Yl0)]⟩ .nil .nil) (.join ⟨[2], [(2, .v Yl0)]⟩ (.two .nil (.two .nil (.two (.join ⟨[2], [(2, .v Yl0)]⟩ .nil .nil) (.two .nil (.two (.join ⟨[2], [(2, .v Yl0)]⟩ .nil .nil) (.two .nil (.two (.join ⟨[2], [(2, .v Yl0)]⟩ (.two .nil (.loop ⟨[2, 3], [(2, .v Yl0), (3, .v Yl1)]⟩ .nil)) (.join ⟨[2], [(2, .v Yl0)]⟩ .nil .nil)) (.two .nil (.two (.join ⟨[2], [(2, .v Yl0)]⟩ .nil .nil) (.two .nil (.two (.join ⟨[2], [(2, .v Yl0)]⟩ .nil .nil) (.two .nil (.two (.join ⟨[2], [(2, .v Yl0)]⟩ .nil .nil) (.join ⟨[], [(170, .v Yl0)]⟩ .nil (.two (.join ⟨[2], [(2, .v Yl0)]⟩ .nil .nil) .nil))))))))))))))) .nil))) } }
noncomputable def i_1s : Inst := { f := 98, fn := Tryz.f98, n := 41, pds := [.rd .str], caps := [], res := [Yl0], h := { ca := [(6, 16)], code := (.two .nil (.two (.join ⟨[], [(12, .v Yl0)]⟩ .nil .nil) (.join ⟨[2], [(2, .v Yl0)]⟩ (.two .nil (.loop ⟨[2, 3], [(2, .v Yl0), (3, .v Yl1)]⟩ (.two .nil (.two (.join ⟨[], [(40, .v Yl0)]⟩ .nil .nil) .nil)))) .nil))) } }
noncomputable def i_1y : Inst := { f := 99, fn := Tryz.f99, n := 5, pds := [.rd Yv2], caps := [], res := [Yl0], h := { ca := [(4, 16)], code := .nil } }
noncomputable def i_1v : Inst := { f := 100, fn := Tryz.f100, n := 5, pds := [.rd Yv2], caps := [], res := [Yl0], h := { ca := [(4, 16)], code := .nil } }
noncomputable def i_1z : Inst := { f := 52, fn := Tryz.f52, n := 51, pds := [.rd Yv7, .rd Yv2, .rd Yv2], caps := [], res := [Yl1, Yl1], h := { ca := [(29, 23), (38, 22)], code := (.two .nil (.two (.join ⟨[], [(20, .v Yl0)]⟩ .nil .nil) (.two .nil (.two .nil (.join ⟨[6, 7, 8, 9], [(6, .v Yl1), (7, .v Yl1), (8, .v Yl1), (9, .v Yl1)]⟩ (.two .nil (.loop ⟨[6, 7, 8, 9, 10], [(6, .v Yl1), (7, .v Yl1), (8, .v Yl1), (9, .v Yl1), (10, .v Yl1)]⟩ (.two .nil (.join ⟨[6, 7, 8, 9], [(6, .v Yl1), (7, .v Yl1), (8, .v Yl1), (9, .v Yl1)]⟩ .nil .nil)))) .nil))))) } }
noncomputable def i_1i : Inst := { f := 63, fn := Tryz.f63, n := 15, pds := [.rd Yv2], caps := [], res := [Yl1], h := { code := (.two .nil (.two (.two .nil (.two .nil (.two .nil (.join ⟨[], [(6, .v Yl0)]⟩ .nil (.two .nil (.join ⟨[], [(9, .v Yl0)]⟩ .nil .nil)))))) .nil)) } }
noncomputable def i_1r : Inst := { f := 35, fn := Tryz.f35, n := 26, pds := [.rd Yv6], caps := [], res := [Yl2], h := { ca := [(23, 25)], code := (.two .nil (.two .nil (.two .nil (.join ⟨[3], [(3, .v Yl2)]⟩ (.two .nil (.loop ⟨[3, 4], [(3, .v Yl2), (4, .v Yl1)]⟩ (.two .nil (.two (.join ⟨[3], [(3, .v Yl2)]⟩ .nil .nil) .nil)))) .nil)))) } }
noncomputable def i_1q : Inst := { f := 69, fn := Tryz.f69, n := 11, pds := [.rd Yv1], caps := [], res := [Yl2], h := { ca := [(5, 26), (9, 26)], code := .nil } }
noncomputable def i_1u : Inst := { f := 93, fn := Tryz.f93, n := 31, pds := [.rd Yv2], caps := [], res := [Yl2], h := { code := (.two .nil (.two .nil (.two .nil (.two .nil (.join ⟨[0, 3], [(3, .v Yl2)]⟩ (.loop ⟨[0, 3], [(0, .v Yl1), (3, .v Yl2)]⟩ (.two .nil (.two .nil (.join ⟨[5], [(5, .v Yl1)]⟩ .nil .nil)))) .nil))))) } }
noncomputable def i_1m : Inst := { f := 34, fn := Tryz.f34, n := 73, pds := [.rd .str], caps := [], res := [Yl4, Yl0], h := { al := [22, 27, 32, 36, 43, 69], ca := [(20, 28), (31, 28), (39, 29), (46, 29)], code := (.two .nil (.two .nil (.two .nil (.two .nil (.two .nil (.join ⟨[2, 3, 4], [(2, .v Yl4), (3, .v Yl0), (4, .v Yl4)]⟩ (.two .nil (.loop ⟨[2, 3, 4, 6], [(2, .v Yl4), (3, .v Yl0), (4, .v Yl4), (6, .v Yl1)]⟩ (.two .nil (.two (.two .nil (.two .nil (.two .nil (.two .nil (.two (.join ⟨[], [(62, .v Yl0)]⟩ .nil .nil) .nil))))) .nil)))) .nil)))))) } }
noncomputable def i_1w : Inst := { f := 67, fn := Tryz.f67, n := 36, pds := [.rd .str, .rd (.int .u8)], caps := [], res := [Yl3], h := { code := (.two .nil (.two .nil (.two .nil (.join ⟨[5, 6], [(5, .v Yl3)]⟩ (.two .nil (.loop ⟨[5, 6, 7], [(5, .v Yl3), (6, .v Yl1), (7, .v Yl1)]⟩ (.two .nil (.join ⟨[5, 6], [(5, .v Yl3), (6, .v Yl1)]⟩ (.join ⟨[], [(25, .v Yl0)]⟩ .nil .nil) .nil)))) .nil)))) } }
noncomputable def i_1x : Inst := { f := 68, fn := Tryz.f68, n := 62, pds := [.rd .str], caps := [], res := [Yl1, Yl0], h := { ca := [(20, 16), (55, 26), (60, 21)], code := (.two .nil (.two .nil (.join ⟨[4], [(4, .v Yl2)]⟩ (.join ⟨[], [(15, .v Yl0)]⟩ .nil .nil) (.two .nil (.two .nil (.join ⟨[2, 3, 5], [(2, .v Yl1), (3, .v Yl0), (5, .v Yl1)]⟩ (.two .nil (.loop ⟨[2, 3, 5, 6], [(2, .v Yl1), (3, .v Yl0), (5, .v Yl1), (6, .v Yl1)]⟩ (.two .nil (.two (.two (.join ⟨[], [(37, .v Yl0)]⟩ .nil .nil) .nil) .nil)))) (.join ⟨[5], [(5, .v Yl1)]⟩ .nil (.join ⟨[2, 3], [(2, .v Yl1), (3, .v Yl0)]⟩ .nil .nil)))))))) } }
noncomputable def i_1o : Inst := { f := 19, fn := Tryz.f19, n := 26, pds := [.rd Yv7], caps := [], res := [Yl2], h := { ca := [(6, 17), (23, 31)], code := (.two .nil (.two .nil (.two .nil (.join ⟨[3], [(3, .v Yl2)]⟩ (.two .nil (.loop ⟨[3, 4], [(3, .v Yl2), (4, .v Yl1)]⟩ (.two .nil (.two (.join ⟨[3], [(3, .v Yl2)]⟩ .nil .nil) .nil)))) .nil)))) } }
noncomputable def i_1k : Inst := { f := 48, fn := Tryz.f48, n := 99, pds := [.rd Yv0], caps := [], res := [Yl2], h := { ca := [(6, 18), (8, 32), (28, 26), (31, 33), (43, 34), (52, 26), (68, 26), (76, 26), (81, 26), (89, 26), (96, 34)], code := (.two .nil (.two .nil (.two .nil (.join ⟨[2, 3], [(2, .v Yl2), (3, .v Yl2)]⟩ (.two .nil (.two .nil (.two .nil (.two .nil (.two .nil (.two .nil (.two (.two .nil (.two .nil (.loop ⟨[3, 4], [(3, .v Yl2), (4, .v Yl1)]⟩ .nil))) .nil))))))) .nil)))) } }
noncomputable def i_22 : Inst := { f := 92, fn := Tryz.f92, n := 2, pds := [], caps := [], res := [Yl3], h := { code := .nil } }
noncomputable def i_21 : Inst := { f := 94, fn := Tryz.f94, n := 2, pds := [], caps := [], res := [Yl3], h := { code := .nil } }
noncomputable def i_20 : Inst := { f := 95, fn := Tryz.f95, n := 12, pds := [.rd Yv0], caps := [], res := [Yl2], h := { ca := [(7, 26), (11, 26)], code := .nil } }
noncomputable def i_b : Inst := { f := 14, fn := Tryz.f14, n := 38, pds := [.rd (.sl 32 Yv3)], caps := [], res := [Yl2, Yl0], h := { ca := [(17, 36), (35, 47)], code := (.two .nil (.two .nil (.join ⟨[2, 3, 4], [(2, .v Yl2), (3, .v Yl0), (4, .v Yl2)]⟩ (.two .nil (.loop ⟨[2, 3, 4, 11], [(2, .v Yl2), (3, .v Yl0), (4, .v Yl2), (11, .v Yl1)]⟩ (.two .nil (.two .nil (.two (.two .nil (.two .nil (.two (.join ⟨[], [(29, .v Yl0)]⟩ .nil .nil) .nil))) .nil))))) .nil))) } }
noncomputable def i_6 : Inst := { f := 9, fn := Tryz.f9, n := 96, pds := [.rd Yv3], caps := [], res := [Yl2, Yl0], h := { al := [38, 81], ca := [(17, 37), (20, 43), (25, 53), (30, 53), (41, 70), (48, 71), (52, 71)], code := (.two .nil (.two .nil (.join ⟨[2, 3, 4], [(2, .v Yl2), (3, .v Yl0), (4, .v Yl3)]⟩ (.two .nil (.two .nil (.two (.two .nil (.two .nil (.two (.join ⟨[], [(43, .v Yl0)]⟩ .nil .nil) .nil))) (.join ⟨[], [(55, .v Yl0)]⟩ .nil (.two (.two (.join ⟨[], [(74, .v Yl0)]⟩ .nil .nil) .nil) .nil))))) (.two .nil (.join ⟨[2, 3, 8], [(2, .v Yl2), (3, .v Yl0), (8, .v Yl2)]⟩ (.two .nil (.loop ⟨[2, 3, 8, 83], [(2, .v Yl2), (3, .v Yl0), (8, .v Yl2), (83, .v Yl1)]⟩ .nil)) .nil))))) } }
noncomputable def i_d : Inst := { f := 38, fn := Tryz.f38, n := 23, pds := [.rd Yv6], caps := [], res := [Yl2], h := { al := [21], ca := [(17, 38), (22, 41)], code := (.two .nil (.two .nil (.two .nil (.join ⟨[3], [(3, .v Yl3)]⟩ (.two .nil (.loop ⟨[3, 11], [(3, .v Yl3), (11, .v Yl1)]⟩ .nil)) .nil)))) } }
noncomputable def i_c : Inst := { f := 72, fn := Tryz.f72, n := 11, pds := [.rd Yv1], caps := [], res := [Yl2], h := { ca := [(5, 39), (9, 39)], code := .nil } }
noncomputable def i_l : Inst := { f := 88, fn := Tryz.f88, n := 5, pds := [.rd Yv2], caps := [], res := [Yl2], h := { ca := [(4, 40)], code := .nil } }
noncomputable def i_23 : Inst := { f := 129, fn := Tryz.f129, n := 5, pds := [.rd Yv2], caps := [], res := [Yl2], h := {} }
noncomputable def i_p : Inst := { f := 47, fn := Tryz.f47, n := 5, pds := [.mu true true 9 .str], caps := [], res := [Yl2], h := { ca := [(4, 42)], code := .nil } }
noncomputable def i_27 : Inst := { f := 91, fn := Tryz.f91, n := 75, pds := [.mu true true 9 .str, .rd .str], caps := [], res := [Yl2], h := {} }
noncomputable def i_7 : Inst := { f := 39, fn := Tryz.f39, n := 64, pds := [.rd .str], caps := [], res := [Yl4, Yl0], h := { al := [60], ca := [(17, 44), (25, 50), (31, 52), (36, 52)], code := (.two .nil (.two .nil (.two .nil (.join ⟨[2, 3, 4], [(2, .v Yl4), (3, .v Yl0), (4, .v Yl4)]⟩ (.two .nil (.loop ⟨[2, 3, 4, 19], [(2, .v Yl4), (3, .v Yl0), (4, .v Yl4), (19, .v Yl1)]⟩ (.two .nil (.two .nil (.two (.two .nil (.two .nil (.two .nil (.two .nil (.two (.join ⟨[], [(52, .v Yl0)]⟩ .nil .nil) .nil))))) .nil))))) .nil)))) } }
noncomputable def i_28 : Inst := { f := 73, fn := Tryz.f73, n := 8, pds := [.rd .str, .rd .str], caps := [], res := [Yl3], h := { ca := [(7, 45)], code := .nil } }
noncomputable def i_2a : Inst := { f := 116, fn := Tryz.f116, n := 66, pds := [.rd .str, .rd .str, .rd Yv2, .rd Yv2], caps := [], res := [Yl3], h := { al := [42, 58], el := [49, 61], tk := [65], ca := [(18, 46), (23, 47), (39, 48)], code := (.two .nil (.two .nil (.two .nil (.join ⟨[3], [(3, .v Yl1)]⟩ .nil (.two .nil (.two .nil (.two .nil (.two .nil (.join ⟨[0, 9, 10], [(0, .v Yl2), (9, .v Yl3), (10, .v Yl1)]⟩ (.loop ⟨[0, 9, 10], [(0, .v Yl2), (9, .v Yl3), (10, .v Yl1)]⟩ .nil) .nil))))))))) } }
noncomputable def i_29 : Inst := { f := 141, fn := Tryz.f141, n := 50, pds := [.rd .str, .rd Yv2], caps := [], res := [Yl3], h := {} }
noncomputable def i_24 : Inst := { f := 44, fn := Tryz.f44, n := 34, pds := [.rd .str, .rd .str], caps := [], res := [Yl1], h := {} }
noncomputable def i_26 : Inst := { f := 85, fn := Tryz.f85, n := 8, pds := [.rd .str, .rd .str], caps := [], res := [Yl1], h := { ca := [(7, 49)], code := .nil } }
noncomputable def i_r : Inst := { f := 126, fn := Tryz.f126, n := 143, pds := [.rd .str, .rd .str], caps := [], res := [Yl1], h := {} }
noncomputable def i_25 : Inst := { f := 74, fn := Tryz.f74, n := 13, pds := [.rd .str, .rd .str], caps := [], res := [Yl2, Yl2, Yl0], h := { ca := [(9, 51)], code := .nil } }
noncomputable def i_q : Inst := { f := 117, fn := Tryz.f117, n := 23, pds := [.rd .str, .rd .str], caps := [], res := [Yl2, Yl2, Yl0], h := { ca := [(10, 49)], code := .nil } }
noncomputable def i_n : Inst := { f := 75, fn := Tryz.f75, n := 25, pds := [.rd .str], caps := [], res := [Yl1, Yl0], h := {} }
noncomputable def i_8 : Inst := { f := 40, fn := Tryz.f40, n := 16, pds := [.rd Yv7], caps := [], res := [Yl0], h := { ca := [(5, 54), (9, 55), (12, 68)], code := (.two .nil (.two (.join ⟨[], [(10, .v Yl0)]⟩ .nil .nil) .nil)) } }
noncomputable def i_g : Inst := { f := 76, fn := Tryz.f76, n := 15, pds := [.rd Yv2, .rd Yv2, .rd Yv2], caps := [], res := [Yl0], h := { code := (.two .nil (.join ⟨[6], [(6, .v Yl0)]⟩ .nil .nil)) } }
noncomputable def i_1c : Inst := { f := 77, fn := Tryz.f77, n := 9, pds := [.rd Yv7, .fn 78 []], caps := [], res := [Yl0], h := { ca := [(7, 56)], code := .nil } }
noncomputable def i_1g : Inst := { f := 120, fn := Tryz.f120, n := 19, pds := [.rd Yv7, .fn 78 []], caps := [], res := [Yl1], h := { ca := [(16, 57)], code := (.two .nil (.join ⟨[4], [(4, .v Yl1)]⟩ (.two .nil (.loop ⟨[4, 8], [(4, .v Yl1), (8, .v Yl1)]⟩ .nil)) .nil)) } }
noncomputable def i_9 : Inst := { f := 78, fn := Tryz.f78, n := 6, pds := [.rd Yv0], caps := [], res := [Yl0], h := { ca := [(4, 58)], code := .nil } }
noncomputable def i_2 : Inst := { f := 79, fn := Tryz.f79, n := 116, pds := [.rd Yv0], caps := [], res := [Yl0], h := { ca := [(13, 59), (19, 60), (23, 54), (29, 62), (53, 61), (64, 54), (68, 63), (76, 60), (80, 60), (88, 60), (94, 54), (102, 61), (114, 66)], code := (.two .nil (.two .nil (.two .nil (.two .nil (.join ⟨[3, 4, 6], [(3, .bx 71 [Yl1, Yl2, Yl1, Yl1, Yl1, Yl0, ⟨false, false, (.sl 3 Yv2)⟩]), (4, .v Yl0)]⟩ (.two .nil (.two .nil (.two .nil (.two .nil (.two (.join ⟨[4], [(4, .v Yl0)]⟩ .nil (.join ⟨[4], [(4, .v Yl0)]⟩ .nil .nil)) (.two .nil (.two (.join ⟨[4], [(4, .v Yl0)]⟩ .nil .nil) (.two .nil (.two (.join ⟨[4], [(4, .v Yl0)]⟩ .nil .nil) (.two .nil (.two .nil (.two .nil (.two (.join ⟨[4], [(4, .v Yl0)]⟩ .nil .nil) (.join ⟨[], [(107, .v Yl0)]⟩ .nil .nil)))))))))))))) (.join ⟨[2], [(2, .v Yl0)]⟩ .nil .nil)))))) } }
noncomputable def i_e : Inst := { f := 104, fn := Tryz.f104, n := 38, pds := [.rd .str], caps := [], res := [Yl0], h := { ca := [(37, 54)], code := (.two .nil (.join ⟨[2], [(2, .v Yl0)]⟩ (.two .nil (.loop ⟨[2, 8], [(2, .v Yl0), (8, .v Yl1)]⟩ (.two .nil (.two .nil (.two (.two .nil (.two .nil (.join ⟨[], [(5, .v Yl0)]⟩ .nil (.join ⟨[], [(33, .v Yl0)]⟩ .nil .nil)))) .nil))))) .nil)) } }
noncomputable def i_h : Inst := { f := 121, fn := Tryz.f121, n := 5, pds := [.rd Yv2], caps := [], res := [Yl0], h := { ca := [(4, 54)], code := .nil } }
noncomputable def i_j : Inst := { f := 122, fn := Tryz.f122, n := 5, pds := [.rd Yv2], caps := [], res := [Yl0], h := { ca := [(4, 54)], code := .nil } }
noncomputable def i_i : Inst := { f := 119, fn := Tryz.f119, n := 5, pds := [.rd Yv2], caps := [], res := [Yl0], h := { ca := [(4, 54)], code := .nil } }
noncomputable def i_1d : Inst := { f := 123, fn := Tryz.f123, n := 9, pds := [.rd (.sl 3 Yv2), .fn 124 []], caps := [], res := [Yl0], h := { ca := [(7, 64)], code := .nil } }
noncomputable def i_1h : Inst := { f := 144, fn := Tryz.f144, n := 19, pds := [.rd (.sl 3 Yv2), .fn 124 []], caps := [], res := [Yl1], h := { ca := [(16, 65)], code := (.two .nil (.join ⟨[4], [(4, .v Yl1)]⟩ (.two .nil (.loop ⟨[4, 8], [(4, .v Yl1), (8, .v Yl1)]⟩ .nil)) .nil)) } }
noncomputable def i_3 : Inst := { f := 124, fn := Tryz.f124, n := 6, pds := [.rd Yv2], caps := [], res := [Yl0], h := { ca := [(4, 60)], code := .nil } }
noncomputable def i_o : Inst := { f := 56, fn := Tryz.f56, n := 52, pds := [.rd Yv0, .rd Yv0], caps := [], res := [Yl0], h := { ca := [(50, 67)], code := (.two .nil (.join ⟨[4], [(4, .v Yl0)]⟩ .nil .nil)) } }
noncomputable def i_1f : Inst := { f := 107, fn := Tryz.f107, n := 26, pds := [.rd (.sl 3 Yv2), .rd (.sl 3 Yv2)], caps := [], res := [Yl0], h := { code := (.two .nil (.two .nil (.join ⟨[4], [(4, .v Yl0)]⟩ (.two .nil (.loop ⟨[4, 13], [(4, .v Yl0), (13, .v Yl1)]⟩ .nil)) .nil))) } }
noncomputable def i_f : Inst := { f := 80, fn := Tryz.f80, n := 35, pds := [.rd Yv7, .rd Yv2, .rd Yv2], caps := [], res := [Yl1], h := { ca := [(23, 69), (30, 68)], code := (.two .nil (.two (.join ⟨[], [(15, .v Yl0)]⟩ .nil .nil) (.two .nil (.join ⟨[6, 7], [(6, .v Yl1), (7, .v Yl1)]⟩ (.two .nil (.loop ⟨[6, 7, 24], [(6, .v Yl1), (7, .v Yl1), (24, .v Yl1)]⟩ .nil)) .nil)))) } }
noncomputable def i_1 : Inst := { f := 54, fn := Tryz.f54, n := 15, pds := [.rd Yv2], caps := [], res := [Yl1], h := { code := (.two .nil (.two (.two .nil (.two .nil (.two .nil (.join ⟨[], [(6, .v Yl0)]⟩ .nil (.two .nil (.join ⟨[], [(9, .v Yl0)]⟩ .nil .nil)))))) .nil)) } }
noncomputable def i_1e : Inst := { f := 41, fn := Tryz.f41, n := 26, pds := [.rd Yv6, .rd Yv6], caps := [], res := [Yl0], h := { code := (.two .nil (.two .nil (.join ⟨[4], [(4, .v Yl0)]⟩ (.two .nil (.loop ⟨[4, 13], [(4, .v Yl0), (13, .v Yl1)]⟩ .nil)) .nil))) } }
noncomputable def i_a : Inst := { f := 18, fn := Tryz.f18, n := 23, pds := [.rd Yv7], caps := [], res := [Yl2], h := { al := [21], ca := [(7, 53), (17, 72), (22, 41)], code := (.two .nil (.two .nil (.two .nil (.join ⟨[3], [(3, .v Yl3)]⟩ (.two .nil (.loop ⟨[3, 11], [(3, .v Yl3), (11, .v Yl1)]⟩ .nil)) .nil)))) } }
noncomputable def i_4 : Inst := { f := 46, fn := Tryz.f46, n := 95, pds := [.rd Yv0], caps := [], res := [Yl2], h := { al := [93], ca := [(7, 58), (9, 73), (29, 39), (30, 74), (42, 75), (51, 39), (63, 39), (72, 39), (75, 39), (83, 39), (90, 75), (94, 41)], code := (.two .nil (.two .nil (.two .nil (.join ⟨[3], [(3, .v Yl3)]⟩ (.two .nil (.two .nil (.two .nil (.two .nil (.two .nil (.two .nil (.two (.two .nil (.two .nil (.loop ⟨[3, 57], [(3, .v Yl3), (57, .v Yl1)]⟩ .nil))) .nil))))))) .nil)))) } }
noncomputable def i_k : Inst := { f := 87, fn := Tryz.f87, n := 2, pds := [], caps := [], res := [Yl3], h := { code := .nil } }
noncomputable def i_m : Inst := { f := 89, fn := Tryz.f89, n := 2, pds := [], caps := [], res := [Yl3], h := { code := .nil } }
noncomputable def i_5 : Inst := { f := 90, fn := Tryz.f90, n := 12, pds := [.rd Yv0], caps := [], res := [Yl2], h := { ca := [(7, 39), (11, 39)], code := .nil } }
noncomputable def i_w : Inst := { f := 15, fn := Tryz.f15, n := 27, pds := [.rd (.sl 32 Yv3), .rd (.sl 32 Yv3)], caps := [], res := [Yl0], h := { ca := [(25, 77)], code := (.two .nil (.two .nil (.join ⟨[4], [(4, .v Yl0)]⟩ (.two .nil (.loop ⟨[4, 5], [(4, .v Yl0), (5, .v Yl1)]⟩ .nil)) .nil))) } }
noncomputable def i_v : Inst := { f := 10, fn := Tryz.f10, n := 28, pds := [.rd Yv3, .rd Yv3], caps := [], res := [Yl0], h := { ca := [(14, 78), (20, 78), (26, 81)], code := .nil } }
noncomputable def i_u : Inst := { f := 42, fn := Tryz.f42, n := 27, pds := [.rd Yv7, .rd Yv7], caps := [], res := [Yl0], h := { ca := [(25, 79)], code := (.two .nil (.two .nil (.join ⟨[4], [(4, .v Yl0)]⟩ (.two .nil (.loop ⟨[4, 5], [(4, .v Yl0), (5, .v Yl1)]⟩ .nil)) .nil))) } }
noncomputable def i_t : Inst := { f := 81, fn := Tryz.f81, n := 41, pds := [.rd Yv0, .rd Yv0], caps := [], res := [Yl0], h := { ca := [(39, 80)], code := .nil } }
noncomputable def i_s : Inst := { f := 125, fn := Tryz.f125, n := 26, pds := [.rd (.sl 3 Yv2), .rd (.sl 3 Yv2)], caps := [], res := [Yl0], h := { code := (.two .nil (.two .nil (.join ⟨[4], [(4, .v Yl0)]⟩ (.two .nil (.loop ⟨[4, 5], [(4, .v Yl0), (5, .v Yl1)]⟩ .nil)) .nil))) } }
noncomputable def i_y : Inst := { f := 43, fn := Tryz.f43, n := 27, pds := [.rd Yv6, .rd Yv6], caps := [], res := [Yl0], h := { ca := [(25, 82)], code := (.two .nil (.two .nil (.join ⟨[4], [(4, .v Yl0)]⟩ (.two .nil (.loop ⟨[4, 5], [(4, .v Yl0), (5, .v Yl1)]⟩ .nil)) .nil))) } }
noncomputable def i_x : Inst := { f := 82, fn := Tryz.f82, n := 15, pds := [.rd Yv1, .rd Yv1], caps := [], res := [Yl0], h := { code := .nil } }
noncomputable def FTL : List Inst := [i_0, i_13, i_12, i_11, i_10, i_z, i_14, i_19, i_18, i_17, i_16, i_15, i_1b, i_1a, i_1p, i_1l, i_1t, i_1n, i_1j, i_1s, i_1y, i_1v, i_1z, i_1i, i_1r, i_1q, i_1u, i_1m, i_1w, i_1x, i_1o, i_1k, i_22, i_21, i_20, i_b, i_6, i_d, i_c, i_l, i_23, i_p, i_27, i_7, i_28, i_2a, i_29, i_24, i_26, i_r, i_25, i_q, i_n, i_8, i_g, i_1c, i_1g, i_9, i_2, i_e, i_h, i_j, i_i, i_1d, i_1h, i_3, i_o, i_1f, i_f, i_1, i_1e, i_a, i_4, i_k, i_m, i_5, i_w, i_v, i_u, i_t, i_s, i_y, i_x]
noncomputable def FT (j : Nat) : Inst := FTL.getD j i_0
noncomputable def SP (j : Nat) : Option (InVals (FT j) → Option (Tup (outTys (FT j)))) := if h40 : j = 40 then some (h40 ▸ (show InVals (FT 40) → Option (Tup (outTys (FT 40))) from fun v => itoaF v.1.1)) else if h42 : j = 42 then some (h42 ▸ (show InVals (FT 42) → Option (Tup (outTys (FT 42))) from fun v => joinF v.1.1 v.1.2.1)) else if h46 : j = 46 then some (h46 ▸ (show InVals (FT 46) → Option (Tup (outTys (FT 46))) from fun _ => none)) else if h47 : j = 47 then some (h47 ▸ (show InVals (FT 47) → Option (Tup (outTys (FT 47))) from fun v => countF v.1.1 v.1.2.1)) else if h49 : j = 49 then some (h49 ▸ (show InVals (FT 49) → Option (Tup (outTys (FT 49))) from fun v => indexF v.1.1 v.1.2.1)) else if h52 : j = 52 then some (h52 ▸ (show InVals (FT 52) → Option (Tup (outTys (FT 52))) from fun v => readF v.1.1)) else none
def lays138_ren : Go.Shelf.Ren := ⟨fun | 138 => 44 | 143 => 85 | 195 => 83 | 217 => 145 | 218 => 84 | 219 => 126 | 224 => 147 | 225 => 146 | 266 => 165 | 267 => 148 | 314 => 166 | n => n, fun | 0 => 0 | 3 => 3 | 4 => 4 | 5 => 5 | 9 => 9 | 46 => 152 | 51 => 165 | 146 => 166 | n => n, fun | 1 => 0 | n => n⟩
theorem lays138 : Go.Proofs.Lays.n138 Tryz.prog lays138_ren := {
 mixed := by kernel_rfl,
 f138 := Tryz.func44.trans (congrArg some (by kernel_rfl)),
 f143 := Tryz.func85.trans (congrArg some (by kernel_rfl)),
 f195 := Tryz.func83.trans (congrArg some (by kernel_rfl)),
 f217 := Tryz.func145.trans (congrArg some (by kernel_rfl)),
 f218 := Tryz.func84.trans (congrArg some (by kernel_rfl)),
 f219 := Tryz.func126.trans (congrArg some (by kernel_rfl)),
 f224 := Tryz.func147.trans (congrArg some (by kernel_rfl)),
 f225 := Tryz.func146.trans (congrArg some (by kernel_rfl)),
 f266 := Tryz.func165.trans (congrArg some (by kernel_rfl)),
 f267 := Tryz.func148.trans (congrArg some (by kernel_rfl)),
 f314 := Tryz.func166.trans (congrArg some (by kernel_rfl)),
 t0 := Tryz.underlying0,
 a0 := Tryz.isAgg0,
 z0 := Tryz.sizeOf0,
 v0 := Tryz.zeroValue0,
 t3 := Tryz.underlying3,
 a3 := Tryz.isAgg3,
 z3 := Tryz.sizeOf3,
 v3 := Tryz.zeroValue3,
 t4 := Tryz.underlying4,
 a4 := Tryz.isAgg4,
 z4 := Tryz.sizeOf4,
 v4 := Tryz.zeroValue4,
 t5 := Tryz.underlying5,
 a5 := Tryz.isAgg5,
 z5 := Tryz.sizeOf5,
 v5 := Tryz.zeroValue5,
 t9 := Tryz.underlying9,
 a9 := Tryz.isAgg9,
 z9 := Tryz.sizeOf9,
 v9 := Tryz.zeroValue9,
 t46 := Tryz.underlying152,
 a46 := Tryz.isAgg152,
 z46 := Tryz.sizeOf152,
 v46 := Tryz.zeroValue152,
 t51 := Tryz.underlying165,
 a51 := Tryz.isAgg165,
 z51 := Tryz.sizeOf165,
 v51 := Tryz.zeroValue165,
 t146 := Tryz.underlying166,
 a146 := Tryz.isAgg166,
 z146 := Tryz.sizeOf166,
 v146 := Tryz.zeroValue166,
 g1 := by kernel_rfl }
def lays156_ren : Go.Shelf.Ren := ⟨fun | 156 => 91 | 165 => 130 | 166 => 131 | 169 => 132 | 240 => 153 | 241 => 154 | 276 => 169 | 277 => 170 | n => n, fun | 0 => 0 | 3 => 3 | 4 => 4 | 5 => 5 | 9 => 9 | 20 => 20 | 31 => 55 | 37 => 43 | 70 => 148 | 72 => 150 | 75 => 142 | 76 => 143 | 80 => 117 | 127 => 164 | 164 => 183 | n => n, fun n => n⟩
theorem lays156 : Go.Proofs.Lays.n156 Tryz.prog lays156_ren := {
 mixed := by kernel_rfl,
 f156 := Tryz.func91.trans (congrArg some (by kernel_rfl)),
 f165 := Tryz.func130.trans (congrArg some (by kernel_rfl)),
 f166 := Tryz.func131.trans (congrArg some (by kernel_rfl)),
 f169 := Tryz.func132.trans (congrArg some (by kernel_rfl)),
 f240 := Tryz.func153.trans (congrArg some (by kernel_rfl)),
 f241 := Tryz.func154.trans (congrArg some (by kernel_rfl)),
 f276 := Tryz.func169.trans (congrArg some (by kernel_rfl)),
 f277 := Tryz.func170.trans (congrArg some (by kernel_rfl)),
 t0 := Tryz.underlying0,
 a0 := Tryz.isAgg0,
 z0 := Tryz.sizeOf0,
 v0 := Tryz.zeroValue0,
 t3 := Tryz.underlying3,
 a3 := Tryz.isAgg3,
 z3 := Tryz.sizeOf3,
 v3 := Tryz.zeroValue3,
 t4 := Tryz.underlying4,
 a4 := Tryz.isAgg4,
 z4 := Tryz.sizeOf4,
 v4 := Tryz.zeroValue4,
 t9 := Tryz.underlying9,
 a9 := Tryz.isAgg9,
 z9 := Tryz.sizeOf9,
 v9 := Tryz.zeroValue9,
 t20 := Tryz.underlying20,
 a20 := Tryz.isAgg20,
 z20 := Tryz.sizeOf20,
 v20 := Tryz.zeroValue20,
 t31 := Tryz.underlying55,
 a31 := Tryz.isAgg55,
 z31 := Tryz.sizeOf55,
 v31 := Tryz.zeroValue55,
 t37 := Tryz.underlying43,
 a37 := Tryz.isAgg43,
 z37 := Tryz.sizeOf43,
 v37 := Tryz.zeroValue43,
 t70 := Tryz.underlying148,
 a70 := Tryz.isAgg148,
 z70 := Tryz.sizeOf148,
 v70 := Tryz.zeroValue148,
 t72 := Tryz.underlying150,
 a72 := Tryz.isAgg150,
 z72 := Tryz.sizeOf150,
 v72 := Tryz.zeroValue150,
 t75 := Tryz.underlying142,
 a75 := Tryz.isAgg142,
 z75 := Tryz.sizeOf142,
 v75 := Tryz.zeroValue142,
 t76 := Tryz.underlying143,
 a76 := Tryz.isAgg143,
 z76 := Tryz.sizeOf143,
 v76 := Tryz.zeroValue143,
 t127 := Tryz.underlying164,
 a127 := Tryz.isAgg164,
 z127 := Tryz.sizeOf164,
 v127 := Tryz.zeroValue164,
 t164 := Tryz.underlying183,
 a164 := Tryz.isAgg183,
 z164 := Tryz.sizeOf183,
 v164 := Tryz.zeroValue183 }
theorem lays156X : Go.Proofs.Builder.Extra Tryz.prog lays156_ren := {
 sizeBuilder := by kernel_rfl,
 liesBuilder := by kernel_rfl,
 t5 := Tryz.underlying5,
 a5 := Tryz.isAgg5,
 z5 := Tryz.sizeOf5,
 v5 := Tryz.zeroValue5,
 infoByte := by kernel_rfl,
 cellsByte := by kernel_rfl,
 sizeByte := by kernel_rfl,
 neB5 := by decide }
def lays171_ren : Go.Shelf.Ren := ⟨fun | 129 => 184 | 171 => 129 | 243 => 152 | 246 => 168 | 283 => 176 | 284 => 177 | 285 => 178 | 286 => 179 | 317 => 183 | 318 => 185 | 319 => 186 | 320 => 187 | 337 => 188 | 338 => 189 | n => n, fun | 0 => 0 | 2 => 2 | 3 => 3 | 4 => 4 | 5 => 5 | 9 => 9 | 20 => 20 | 37 => 43 | 46 => 152 | 51 => 165 | 53 => 168 | 171 => 193 | 173 => 196 | 212 => 207 | 213 => 208 | 232 => 211 | 233 => 212 | n => n, fun | 17 => 5 | 18 => 6 | 19 => 7 | n => n⟩
theorem lays171 : Go.Proofs.LaysM.n171 Tryz.prog lays171_ren := {
 mixed := by kernel_rfl,
 f129 := Tryz.func184.trans (congrArg some (by kernel_rfl)),
 f171 := Tryz.func129.trans (congrArg some (by kernel_rfl)),
 f243 := Tryz.func152.trans (congrArg some (by kernel_rfl)),
 f246 := Tryz.func168.trans (congrArg some (by kernel_rfl)),
 f283 := Tryz.func176.trans (congrArg some (by kernel_rfl)),
 f284 := Tryz.func177.trans (congrArg some (by kernel_rfl)),
 f285 := Tryz.func178.trans (congrArg some (by kernel_rfl)),
 f286 := Tryz.func179.trans (congrArg some (by kernel_rfl)),
 f317 := Tryz.func183.trans (congrArg some (by kernel_rfl)),
 f318 := Tryz.func185.trans (congrArg some (by kernel_rfl)),
 f319 := Tryz.func186.trans (congrArg some (by kernel_rfl)),
 f320 := Tryz.func187.trans (congrArg some (by kernel_rfl)),
 f337 := Tryz.func188.trans (congrArg some (by kernel_rfl)),
 f338 := Tryz.func189.trans (congrArg some (by kernel_rfl)),
 t0 := Tryz.underlying0,
 a0 := Tryz.isAgg0,
 z0 := Tryz.sizeOf0,
 v0 := Tryz.zeroValue0,
 t2 := Tryz.underlying2,
 a2 := Tryz.isAgg2,
 z2 := Tryz.sizeOf2,
 v2 := Tryz.zeroValue2,
 t3 := Tryz.underlying3,
 a3 := Tryz.isAgg3,
 z3 := Tryz.sizeOf3,
 v3 := Tryz.zeroValue3,
 t4 := Tryz.underlying4,
 a4 := Tryz.isAgg4,
 z4 := Tryz.sizeOf4,
 v4 := Tryz.zeroValue4,
 t5 := Tryz.underlying5,
 a5 := Tryz.isAgg5,
 z5 := Tryz.sizeOf5,
 v5 := Tryz.zeroValue5,
 t9 := Tryz.underlying9,
 a9 := Tryz.isAgg9,
 z9 := Tryz.sizeOf9,
 v9 := Tryz.zeroValue9,
 t20 := Tryz.underlying20,
 a20 := Tryz.isAgg20,
 z20 := Tryz.sizeOf20,
 v20 := Tryz.zeroValue20,
 t37 := Tryz.underlying43,
 a37 := Tryz.isAgg43,
 z37 := Tryz.sizeOf43,
 v37 := Tryz.zeroValue43,
 t46 := Tryz.underlying152,
 a46 := Tryz.isAgg152,
 z46 := Tryz.sizeOf152,
 v46 := Tryz.zeroValue152,
 t51 := Tryz.underlying165,
 a51 := Tryz.isAgg165,
 z51 := Tryz.sizeOf165,
 v51 := Tryz.zeroValue165,
 t53 := Tryz.underlying168,
 a53 := Tryz.isAgg168,
 z53 := Tryz.sizeOf168,
 v53 := Tryz.zeroValue168,
 t171 := Tryz.underlying193,
 a171 := Tryz.isAgg193,
 z171 := Tryz.sizeOf193,
 v171 := Tryz.zeroValue193,
 t173 := Tryz.underlying196,
 a173 := Tryz.isAgg196,
 z173 := Tryz.sizeOf196,
 v173 := Tryz.zeroValue196,
 t212 := Tryz.underlying207,
 a212 := Tryz.isAgg207,
 z212 := Tryz.sizeOf207,
 v212 := Tryz.zeroValue207,
 t213 := Tryz.underlying208,
 a213 := Tryz.isAgg208,
 z213 := Tryz.sizeOf208,
 t232 := Tryz.underlying211,
 a232 := Tryz.isAgg211,
 z232 := Tryz.sizeOf211,
 v232 := Tryz.zeroValue211,
 t233 := Tryz.underlying212,
 a233 := Tryz.isAgg212,
 z233 := Tryz.sizeOf212,
 v233 := Tryz.zeroValue212,
 g17 := by kernel_rfl,
 g18 := by kernel_rfl,
 g19 := by kernel_rfl,
 i0 := by kernel_rfl,
 i2 := by kernel_rfl,
 i3 := by kernel_rfl,
 i4 := by kernel_rfl,
 i5 := by kernel_rfl,
 i9 := by kernel_rfl,
 i20 := by kernel_rfl,
 i37 := by kernel_rfl,
 i46 := by kernel_rfl,
 i51 := by kernel_rfl,
 i53 := by kernel_rfl,
 i171 := by kernel_rfl,
 i173 := by kernel_rfl,
 i212 := by kernel_rfl,
 i232 := by kernel_rfl,
 i233 := by kernel_rfl,
 m17 := by kernel_rfl,
 m18 := by kernel_rfl,
 m19 := by kernel_rfl }
def lays172_ren : Go.Shelf.Ren := ⟨fun | 129 => 184 | 171 => 129 | 172 => 118 | 205 => 174 | 243 => 152 | 244 => 142 | 245 => 143 | 246 => 168 | 247 => 160 | 279 => 161 | 280 => 162 | 281 => 163 | 282 => 164 | 283 => 176 | 284 => 177 | 285 => 178 | 286 => 179 | 287 => 172 | 316 => 173 | 317 => 183 | 318 => 185 | 319 => 186 | 320 => 187 | 321 => 180 | 322 => 181 | 337 => 188 | 338 => 189 | n => n, fun | 0 => 0 | 2 => 2 | 3 => 3 | 4 => 4 | 5 => 5 | 9 => 9 | 20 => 20 | 21 => 21 | 37 => 43 | 46 => 152 | 51 => 165 | 53 => 168 | 75 => 142 | 76 => 143 | 80 => 117 | 85 => 174 | 127 => 164 | 143 => 203 | 145 => 205 | 167 => 173 | 168 => 176 | 171 => 193 | 173 => 196 | 175 => 186 | 210 => 190 | 212 => 207 | 213 => 208 | 232 => 211 | 233 => 212 | n => n, fun | 15 => 1 | 16 => 2 | 17 => 5 | 18 => 6 | 19 => 7 | n => n⟩
theorem lays172 : Go.Proofs.LaysC.n172 Tryz.prog lays172_ren := {
 mixed := by kernel_rfl,
 f129 := Tryz.func184.trans (congrArg some (by kernel_rfl)),
 f171 := Tryz.func129.trans (congrArg some (by kernel_rfl)),
 f172 := Tryz.func118.trans (congrArg some (by kernel_rfl)),
 f205 := Tryz.func174.trans (congrArg some (by kernel_rfl)),
 f243 := Tryz.func152.trans (congrArg some (by kernel_rfl)),
 f244 := Tryz.func142.trans (congrArg some (by kernel_rfl)),
 f245 := Tryz.func143.trans (congrArg some (by kernel_rfl)),
 f246 := Tryz.func168.trans (congrArg some (by kernel_rfl)),
 f247 := Tryz.func160.trans (congrArg some (by kernel_rfl)),
 f279 := Tryz.func161.trans (congrArg some (by kernel_rfl)),
 f280 := Tryz.func162.trans (congrArg some (by kernel_rfl)),
 f281 := Tryz.func163.trans (congrArg some (by kernel_rfl)),
 f282 := Tryz.func164.trans (congrArg some (by kernel_rfl)),
 f283 := Tryz.func176.trans (congrArg some (by kernel_rfl)),
 f284 := Tryz.func177.trans (congrArg some (by kernel_rfl)),
 f285 := Tryz.func178.trans (congrArg some (by kernel_rfl)),
 f286 := Tryz.func179.trans (congrArg some (by kernel_rfl)),
 f287 := Tryz.func172.trans (congrArg some (by kernel_rfl)),
 f316 := Tryz.func173.trans (congrArg some (by kernel_rfl)),
 f317 := Tryz.func183.trans (congrArg some (by kernel_rfl)),
 f318 := Tryz.func185.trans (congrArg some (by kernel_rfl)),
 f319 := Tryz.func186.trans (congrArg some (by kernel_rfl)),
 f320 := Tryz.func187.trans (congrArg some (by kernel_rfl)),
 f321 := Tryz.func180.trans (congrArg some (by kernel_rfl)),
 f322 := Tryz.func181.trans (congrArg some (by kernel_rfl)),
 f337 := Tryz.func188.trans (congrArg some (by kernel_rfl)),
 f338 := Tryz.func189.trans (congrArg some (by kernel_rfl)),
 t0 := Tryz.underlying0,
 a0 := Tryz.isAgg0,
 z0 := Tryz.sizeOf0,
 v0 := Tryz.zeroValue0,
 t2 := Tryz.underlying2,
 a2 := Tryz.isAgg2,
 z2 := Tryz.sizeOf2,
 v2 := Tryz.zeroValue2,
 t3 := Tryz.underlying3,
 a3 := Tryz.isAgg3,
 z3 := Tryz.sizeOf3,
 v3 := Tryz.zeroValue3,
 t4 := Tryz.underlying4,
 a4 := Tryz.isAgg4,
 z4 := Tryz.sizeOf4,
 v4 := Tryz.zeroValue4,
 t5 := Tryz.underlying5,
 a5 := Tryz.isAgg5,
 z5 := Tryz.sizeOf5,
 v5 := Tryz.zeroValue5,
 t9 := Tryz.underlying9,
 a9 := Tryz.isAgg9,
 z9 := Tryz.sizeOf9,
 v9 := Tryz.zeroValue9,
 t20 := Tryz.underlying20,
 a20 := Tryz.isAgg20,
 z20 := Tryz.sizeOf20,
 v20 := Tryz.zeroValue20,
 t21 := Tryz.underlying21,
 a21 := Tryz.isAgg21,
 z21 := Tryz.sizeOf21,
 v21 := Tryz.zeroValue21,
 t37 := Tryz.underlying43,
 a37 := Tryz.isAgg43,
 z37 := Tryz.sizeOf43,
 v37 := Tryz.zeroValue43,
 t46 := Tryz.underlying152,
 a46 := Tryz.isAgg152,
 z46 := Tryz.sizeOf152,
 v46 := Tryz.zeroValue152,
 t51 := Tryz.underlying165,
 a51 := Tryz.isAgg165,
 z51 := Tryz.sizeOf165,
 v51 := Tryz.zeroValue165,
 t53 := Tryz.underlying168,
 a53 := Tryz.isAgg168,
 z53 := Tryz.sizeOf168,
 v53 := Tryz.zeroValue168,
 t75 := Tryz.underlying142,
 a75 := Tryz.isAgg142,
 z75 := Tryz.sizeOf142,
 v75 := Tryz.zeroValue142,
 t76 := Tryz.underlying143,
 a76 := Tryz.isAgg143,
 z76 := Tryz.sizeOf143,
 v76 := Tryz.zeroValue143,
 t85 := Tryz.underlying174,
 a85 := Tryz.isAgg174,
 z85 := Tryz.sizeOf174,
 v85 := Tryz.zeroValue174,
 t127 := Tryz.underlying164,
 a127 := Tryz.isAgg164,
 z127 := Tryz.sizeOf164,
 v127 := Tryz.zeroValue164,
 t143 := Tryz.underlying203,
 a143 := Tryz.isAgg203,
 z143 := Tryz.sizeOf203,
 v143 := Tryz.zeroValue203,
 t145 := Tryz.underlying205,
 a145 := Tryz.isAgg205,
 z145 := Tryz.sizeOf205,
 v145 := Tryz.zeroValue205,
 t167 := Tryz.underlying173,
 a167 := Tryz.isAgg173,
 z167 := Tryz.sizeOf173,
 v167 := Tryz.zeroValue173,
 t168 := Tryz.underlying176,
 a168 := Tryz.isAgg176,
 z168 := Tryz.sizeOf176,
 v168 := Tryz.zeroValue176,
 t171 := Tryz.underlying193,
 a171 := Tryz.isAgg193,
 z171 := Tryz.sizeOf193,
 v171 := Tryz.zeroValue193,
 t173 := Tryz.underlying196,
 a173 := Tryz.isAgg196,
 z173 := Tryz.sizeOf196,
 v173 := Tryz.zeroValue196,
 t175 := Tryz.underlying186,
 a175 := Tryz.isAgg186,
 z175 := Tryz.sizeOf186,
 v175 := Tryz.zeroValue186,
 t210 := Tryz.underlying190,
 a210 := Tryz.isAgg190,
 z210 := Tryz.sizeOf190,
 v210 := Tryz.zeroValue190,
 t212 := Tryz.underlying207,
 a212 := Tryz.isAgg207,
 z212 := Tryz.sizeOf207,
 v212 := Tryz.zeroValue207,
 t213 := Tryz.underlying208,
 a213 := Tryz.isAgg208,
 z213 := Tryz.sizeOf208,
 t232 := Tryz.underlying211,
 a232 := Tryz.isAgg211,
 z232 := Tryz.sizeOf211,
 v232 := Tryz.zeroValue211,
 t233 := Tryz.underlying212,
 a233 := Tryz.isAgg212,
 z233 := Tryz.sizeOf212,
 v233 := Tryz.zeroValue212,
 g15 := by kernel_rfl,
 g16 := by kernel_rfl,
 g17 := by kernel_rfl,
 g18 := by kernel_rfl,
 g19 := by kernel_rfl,
 t80 := Tryz.underlying117,
 a80 := Tryz.isAgg117,
 z80 := Tryz.sizeOf117,
 v80 := Tryz.zeroValue117,
 i0 := by kernel_rfl,
 i2 := by kernel_rfl,
 i3 := by kernel_rfl,
 i4 := by kernel_rfl,
 i5 := by kernel_rfl,
 i9 := by kernel_rfl,
 i20 := by kernel_rfl,
 i21 := by kernel_rfl,
 i37 := by kernel_rfl,
 i46 := by kernel_rfl,
 i51 := by kernel_rfl,
 i53 := by kernel_rfl,
 i75 := by kernel_rfl,
 i76 := by kernel_rfl,
 i80 := by kernel_rfl,
 i85 := by kernel_rfl,
 i127 := by kernel_rfl,
 i143 := by kernel_rfl,
 i145 := by kernel_rfl,
 i167 := by kernel_rfl,
 i168 := by kernel_rfl,
 i171 := by kernel_rfl,
 i173 := by kernel_rfl,
 i175 := by kernel_rfl,
 i210 := by kernel_rfl,
 i212 := by kernel_rfl,
 i232 := by kernel_rfl,
 i233 := by kernel_rfl,
 m15 := by kernel_rfl,
 m16 := by kernel_rfl,
 m17 := by kernel_rfl,
 m18 := by kernel_rfl,
 m19 := by kernel_rfl,
 c0 := by kernel_rfl,
 c2 := by kernel_rfl,
 c3 := by kernel_rfl,
 c4 := by kernel_rfl,
 c5 := by kernel_rfl,
 c9 := by kernel_rfl,
 c20 := by kernel_rfl,
 c21 := by kernel_rfl,
 c37 := by kernel_rfl,
 c46 := by kernel_rfl,
 c51 := by kernel_rfl,
 c53 := by kernel_rfl,
 c75 := by kernel_rfl,
 c76 := by kernel_rfl,
 c80 := by kernel_rfl,
 c85 := by kernel_rfl,
 c127 := by kernel_rfl,
 c143 := by kernel_rfl,
 c145 := by kernel_rfl,
 c167 := by kernel_rfl,
 c168 := by kernel_rfl,
 c171 := by kernel_rfl,
 c173 := by kernel_rfl,
 c175 := by kernel_rfl,
 c210 := by kernel_rfl,
 c212 := by kernel_rfl,
 c213 := by kernel_rfl,
 c232 := by kernel_rfl,
 c233 := by kernel_rfl }
def lays219_ren : Go.Shelf.Ren := ⟨fun | 217 => 145 | 219 => 126 | 224 => 147 | 225 => 146 | 266 => 165 | 267 => 148 | 314 => 166 | n => n, fun | 3 => 3 | 4 => 4 | 5 => 5 | 9 => 9 | 46 => 152 | 51 => 165 | 146 => 166 | n => n, fun | 1 => 0 | n => n⟩
theorem lays219 : Go.Proofs.Lays.n219 Tryz.prog lays219_ren := {
 mixed := by kernel_rfl,
 f217 := Tryz.func145.trans (congrArg some (by kernel_rfl)),
 f219 := Tryz.func126.trans (congrArg some (by kernel_rfl)),
 f224 := Tryz.func147.trans (congrArg some (by kernel_rfl)),
 f225 := Tryz.func146.trans (congrArg some (by kernel_rfl)),
 f266 := Tryz.func165.trans (congrArg some (by kernel_rfl)),
 f267 := Tryz.func148.trans (congrArg some (by kernel_rfl)),
 f314 := Tryz.func166.trans (congrArg some (by kernel_rfl)),
 t3 := Tryz.underlying3,
 a3 := Tryz.isAgg3,
 z3 := Tryz.sizeOf3,
 v3 := Tryz.zeroValue3,
 t4 := Tryz.underlying4,
 a4 := Tryz.isAgg4,
 z4 := Tryz.sizeOf4,
 v4 := Tryz.zeroValue4,
 t5 := Tryz.underlying5,
 a5 := Tryz.isAgg5,
 z5 := Tryz.sizeOf5,
 v5 := Tryz.zeroValue5,
 t9 := Tryz.underlying9,
 a9 := Tryz.isAgg9,
 z9 := Tryz.sizeOf9,
 v9 := Tryz.zeroValue9,
 t46 := Tryz.underlying152,
 a46 := Tryz.isAgg152,
 z46 := Tryz.sizeOf152,
 v46 := Tryz.zeroValue152,
 t51 := Tryz.underlying165,
 a51 := Tryz.isAgg165,
 z51 := Tryz.sizeOf165,
 v51 := Tryz.zeroValue165,
 t146 := Tryz.underlying166,
 a146 := Tryz.isAgg166,
 z146 := Tryz.sizeOf166,
 v146 := Tryz.zeroValue166,
 g1 := by kernel_rfl }
open Go.RowKit Go.Shelf in
set_option maxRecDepth 100000 in
theorem num_calls {n : Int} (h0 : -9223372036854775808 ≤ n) (h1 : n ≤ 9223372036854775807) (w : World) (hT : Lib.TabIs Tryz.prog w "internal/strconv.uint64pow10" .u64 Lib.pow10Tab) :
  Calls Tryz.prog 88 #[.int .i64 n] w fun e w' => e = .returned (.string ⟨(Lib.itoa n).toArray⟩) ∧ Below w.heap.size w w' := by
 go_enter Tryz.func88, Tryz.ntmps88
 go_wp2_with (go_at_call 129; refine (Any.strconv_Itoa lays171 n h0 h1 _ hT).mono ?_; rintro e w' ⟨rfl, k, os, rfl⟩)
 go_ret
 exact ⟨rfl, below_grow _ _ _⟩
open Go.RowKit Go.Shelf in
set_option maxRecDepth 100000 in
theorem in_calls (x lo hi : Int) (w : World) : Calls Tryz.prog 76 #[.int .i64 x, .int .i64 lo, .int .i64 hi] w fun e w' => e = .returned (.bool (decide (lo ≤ x) && decide (x ≤ hi))) ∧ Below w.heap.size w w' := by
 go_enter Tryz.func76, Tryz.ntmps76
 go_wp2
 ·rename_i h
  go_ret
  exact ⟨congrArg (fun b => Ending.returned (.bool b)) (by rw [decide_eq_true h, Bool.true_and]), Below.refl _ _⟩
 ·rename_i h
  go_ret
  exact ⟨congrArg (fun b => Ending.returned (.bool b)) (by rw [decide_eq_false (show ¬ lo ≤ x by omega), Bool.false_and]), Below.refl _ _⟩
open Go.RowKit Go.Shelf in
set_option maxRecDepth 100000 in
theorem isNum_calls (x : Int) (w : World) : Calls Tryz.prog 119 #[.int .i64 x] w fun e w' => e = .returned (.bool (decide (-1000000 ≤ x) && decide (x ≤ 1000000))) ∧ Below w.heap.size w w' := by
 go_enter Tryz.func119, Tryz.ntmps119
 go_wp2_with (go_at_call 76; refine (in_calls _ _ _ _).mono ?_; rintro e w' ⟨rfl, hb⟩)
 go_ret
 exact ⟨rfl, hb⟩
open Go.RowKit Go.Shelf in
set_option maxRecDepth 100000 in
theorem read_calls (s : ByteArray) (w : World) (Z : Nat → Prop) (hs : s.size ≤ 281474976710656) (hg : Gl Tryz.prog w Z) (hz : ∀ b, Z b → b < w.heap.size) :
  Calls Tryz.prog 75 #[.string s] w fun e w' => e = .returned (.tuple #[.int .i64 (readV s).1, .bool (readV s).2]) ∧ Below w.heap.size w w' := by
 rcases h : Lib.atoiAll s.data.toList with v | _ | _
 ·
  obtain ⟨v0, v1⟩ := atoi_range h
  have hr : readV s = if (⟨(Lib.itoa v).toArray⟩ : ByteArray) = s ∧ -1000000 ≤ v ∧ v ≤ 1000000 then (v, true) else (0, false) := by
   unfold readV readM
   rw [h]
   simp only
   by_cases hc : (⟨(Lib.itoa v).toArray⟩ : ByteArray) = s ∧ -1000000 ≤ v ∧ v ≤ 1000000
   ·rw [if_pos hc, if_pos hc]
   ·rw [if_neg hc, if_neg hc]
  go_enter Tryz.func75, Tryz.ntmps75
  go_wp2_with (go_at_call 118; refine (Any.strconv_Atoi_ok lays172 s (by omega) v h _).mono ?_; rintro e w' ⟨rfl, hw⟩)
  have hb : Below w.heap.size w w' := by
   rcases hw with rfl | ⟨t, rfl⟩
   ·exact Below.refl _ _
   ·exact Lib.bytesWorld_below _ _ _
  have hT := gl_pow (hg.mono (fun b hb' => ⟨hb', hb.block b (hz b hb')⟩)) (by kernel_rfl)
  go_wp2_with (go_at_call 88; refine (num_calls v0 v1 _ hT).mono ?_; rintro e w2 ⟨rfl, hb2⟩)
  ·have he' : (⟨(Lib.itoa v).toArray⟩ : ByteArray) = s := by
    have he := ‹Lib.itoa v = s.toList›
    cases s with
    | mk d =>
     rw [ByteArray.toList_eq] at he
     rw [he]
   go_wp2_with (go_at_call 119; refine (isNum_calls _ _).mono ?_; rintro e w3 ⟨rfl, hb3⟩)
   ·rename_i hor
    go_ret2
    rw [hr, if_neg (fun h' => by
     obtain ⟨-, h2, h3⟩ := h'
     rw [decide_eq_true h2, decide_eq_true h3] at hor
     cases hor with
     | inl k => cases k
     | inr k => cases k)]
    exact ⟨rfl, hb.trans ((hb2.mono hb.size).trans (hb3.mono (Nat.le_trans hb.size hb2.size)))⟩
   ·rename_i hor
    go_ret2
    rw [hr, if_pos ⟨he', by have := hor.1; rwa [Bool.not_eq_false', decide_eq_true_eq] at this, by have := hor.2; rwa [Bool.not_eq_false', decide_eq_true_eq] at this⟩]
    exact ⟨rfl, hb.trans ((hb2.mono hb.size).trans (hb3.mono (Nat.le_trans hb.size hb2.size)))⟩
  ·rename_i hne
   go_ret2
   rw [hr, if_neg (fun h' => hne ?_)]
   ·exact ⟨rfl, hb.trans (hb2.mono hb.size)⟩
   ·rw [← h'.1, ByteArray.toList_mk]
 ·
  obtain ⟨tp, p, hv⟩ := gl_syn hg (by kernel_rfl)
  have hr : readV s = (0, false) := by unfold readV readM; rw [h]
  go_enter Tryz.func75, Tryz.ntmps75
  go_wp2_with (go_at_call 118; refine (Any.strconv_Atoi_syntax_var lays172 s hs h tp p _ hv).mono ?_; rintro e w' ⟨N, rfl, -, -, hb⟩)
  go_wp2
  go_ret2
  rw [hr]
  exact ⟨rfl, hb⟩
 ·
  obtain ⟨tp, p, hv⟩ := gl_ran hg (by kernel_rfl)
  have hr : readV s = (0, false) := by unfold readV readM; rw [h]
  go_enter Tryz.func75, Tryz.ntmps75
  go_wp2_with (go_at_call 118; refine (Any.strconv_Atoi_range_var lays172 s hs h tp p _ hv).mono ?_; rintro e w' ⟨N, rfl, -, -, hb⟩)
  go_wp2
  go_ret2
  rw [hr]
  exact ⟨rfl, hb⟩
theorem sp_ok : ∀ j f, SP j = some f → ∀ v r, f v = some r → RetI Tryz.prog (FT j) v r := by
 intro j f hf v r hv
 by_cases h40 : j = 40
 ·subst h40
  have hf2 : some (show InVals (FT 40) → Option (Tup (outTys (FT 40))) from fun v => itoaF v.1.1) = some f := hf
  have hf3 := Option.some.inj hf2
  subst hf3
  exact retI_itoa lays171 (by kernel_rfl) (by decide) (by kernel_rfl) hv
 by_cases h42 : j = 42
 ·subst h42
  have hf2 : some (show InVals (FT 42) → Option (Tup (outTys (FT 42))) from fun v => joinF v.1.1 v.1.2.1) = some f := hf
  have hf3 := Option.some.inj hf2
  subst hf3
  exact retI_join lays156 lays156X (by kernel_rfl) (by decide) hv
 by_cases h46 : j = 46
 ·subst h46
  have hf2 : some (show InVals (FT 46) → Option (Tup (outTys (FT 46))) from fun _ => none) = some f := hf
  have hf3 := Option.some.inj hf2
  subst hf3
  have hv2 : (none : Option _) = some r := hv
  cases hv2
 by_cases h47 : j = 47
 ·subst h47
  have hf2 : some (show InVals (FT 47) → Option (Tup (outTys (FT 47))) from fun v => countF v.1.1 v.1.2.1) = some f := hf
  have hf3 := Option.some.inj hf2
  subst hf3
  exact retI_count lays138 (by kernel_rfl) (by decide) hv
 by_cases h49 : j = 49
 ·subst h49
  have hf2 : some (show InVals (FT 49) → Option (Tup (outTys (FT 49))) from fun v => indexF v.1.1 v.1.2.1) = some f := hf
  have hf3 := Option.some.inj hf2
  subst hf3
  exact retI_index lays219 (by kernel_rfl) (by decide) hv
 by_cases h52 : j = 52
 ·subst h52
  have hf2 : some (show InVals (FT 52) → Option (Tup (outTys (FT 52))) from fun v => readF v.1.1) = some f := hf
  have hf3 := Option.some.inj hf2
  subst hf3
  exact retI_read (by kernel_rfl) (by decide) read_calls hv
 unfold SP at hf
 rw [dif_neg h40, dif_neg h42, dif_neg h46, dif_neg h47, dif_neg h49, dif_neg h52] at hf
 cases hf
theorem ft_ok : FTok Tryz.prog tt FT SP := FTok.of tt_ok (by kernel_rfl) ⟨Tryz.func4, Tryz.func4, Tryz.func11, Tryz.func6, Tryz.func31, Tryz.func66, Tryz.func114, Tryz.func32, Tryz.func13, Tryz.func8, Tryz.func36, Tryz.func70, Tryz.func115, Tryz.func37, Tryz.func71, Tryz.func12, Tryz.func7, Tryz.func33, Tryz.func22, Tryz.func51, Tryz.func98, Tryz.func99, Tryz.func100, Tryz.func52, Tryz.func63, Tryz.func35, Tryz.func69, Tryz.func93, Tryz.func34, Tryz.func67, Tryz.func68, Tryz.func19, Tryz.func48, Tryz.func92, Tryz.func94, Tryz.func95, Tryz.func14, Tryz.func9, Tryz.func38, Tryz.func72, Tryz.func88, Tryz.func129, Tryz.func47, Tryz.func91, Tryz.func39, Tryz.func73, Tryz.func116, Tryz.func141, Tryz.func44, Tryz.func85, Tryz.func126, Tryz.func74, Tryz.func117, Tryz.func75, Tryz.func40, Tryz.func76, Tryz.func77, Tryz.func120, Tryz.func78, Tryz.func79, Tryz.func104, Tryz.func121, Tryz.func122, Tryz.func119, Tryz.func123, Tryz.func144, Tryz.func124, Tryz.func56, Tryz.func107, Tryz.func80, Tryz.func54, Tryz.func41, Tryz.func18, Tryz.func46, Tryz.func87, Tryz.func89, Tryz.func90, Tryz.func15, Tryz.func10, Tryz.func42, Tryz.func81, Tryz.func125, Tryz.func43, Tryz.func82, trivial⟩ (by kernel_rfl) (sp_ok)
noncomputable def F_19 (a0 : List SOp) : Option Bool := callL tt FT SP 0 (show InVals (FT 0) from ((a0, ()), (())))
noncomputable def F_1j (a0 : List SOp) (a1 : Int) : Option Int := callL tt FT SP 1 (show InVals (FT 1) from ((a0, a1, ()), (())))
noncomputable def F_1i (a0 : SOp) (a1 : Int) : Option Int := callL tt FT SP 2 (show InVals (FT 2) from ((a0, a1, ()), (())))
noncomputable def F_l (a0 : List SNode) (a1 : Int) : Option Int := callL tt FT SP 3 (show InVals (FT 3) from ((a0, a1, ()), (())))
noncomputable def F_1h (a0 : SNode) (a1 : Int) : Option Int := callL tt FT SP 4 (show InVals (FT 4) from ((a0, a1, ()), (())))
noncomputable def F_1g (a0 : List Int) (a1 : Int) : Option Int := callL tt FT SP 5 (show InVals (FT 5) from ((a0, a1, ()), (())))
noncomputable def F_1k (a0 : List SStep) (a1 : Int) : Option Int := callL tt FT SP 6 (show InVals (FT 6) from ((a0, a1, ()), (())))
noncomputable def F_6 (a0 : List SOp) : Option (List SOp) := callL tt FT SP 7 (show InVals (FT 7) from ((a0, ()), (())))
noncomputable def F_1n (a0 : SOp) : Option SOp := callL tt FT SP 8 (show InVals (FT 8) from ((a0, ()), (())))
noncomputable def F_m (a0 : List SNode) : Option (List SNode) := callL tt FT SP 9 (show InVals (FT 9) from ((a0, ()), (())))
noncomputable def F_1m (a0 : SNode) : Option SNode := callL tt FT SP 10 (show InVals (FT 10) from ((a0, ()), (())))
noncomputable def F_1l (a0 : List Int) : Option (List Int) := callL tt FT SP 11 (show InVals (FT 11) from ((a0, ()), (())))
noncomputable def F_1o (a0 : List SStep) : Option Yt15 := callL tt FT SP 12 (show InVals (FT 12) from ((a0, ()), (())))
noncomputable def F_n (a0 : SStep) : Option SStep := callL tt FT SP 13 (show InVals (FT 13) from ((a0, ()), (())))
noncomputable def F_1z (a0 : List SOp) : Option Yt14 := callL tt FT SP 14 (show InVals (FT 14) from ((a0, ()), (())))
noncomputable def F_1x (a0 : SOp) : Option Yt14 := callL tt FT SP 15 (show InVals (FT 15) from ((a0, ()), (())))
noncomputable def F_0 (a0 : Int) (a1 : Int) (a2 : Int) : Option Bool := callL tt FT SP 16 (show InVals (FT 16) from ((a0, a1, a2, ()), (())))
noncomputable def F_d (a0 : List SNode) : Option Bool := callL tt FT SP 17 (show InVals (FT 17) from ((a0, ()), (())))
noncomputable def F_c (a0 : SNode) : Option Bool := callL tt FT SP 18 (show InVals (FT 18) from ((a0, ()), (())))
noncomputable def F_21 (a0 : ByteArray) : Option Bool := callL tt FT SP 19 (show InVals (FT 19) from ((a0, ()), (())))
noncomputable def F_5 (a0 : Int) : Option Bool := callL tt FT SP 20 (show InVals (FT 20) from ((a0, ()), (())))
noncomputable def F_q (a0 : Int) : Option Bool := callL tt FT SP 21 (show InVals (FT 21) from ((a0, ()), (())))
noncomputable def F_s (a0 : List SNode) (a1 : Int) (a2 : Int) : Option (Int × Int) := callL tt FT SP 22 (show InVals (FT 22) from ((a0, a1, a2, ()), (())))
noncomputable def F_1v (a0 : Int) : Option Int := callL tt FT SP 23 (show InVals (FT 23) from ((a0, ()), (())))
noncomputable def F_p (a0 : List SStep) : Option ByteArray := callL tt FT SP 24 (show InVals (FT 24) from ((a0, ()), (())))
noncomputable def F_20 (a0 : SStep) : Option ByteArray := callL tt FT SP 25 (show InVals (FT 25) from ((a0, ()), (())))
noncomputable def F_1 (a0 : Int) : Option ByteArray := callL tt FT SP 26 (show InVals (FT 26) from ((a0, ()), (())))
noncomputable def F_1y (a0 : ByteArray) : Option (Yt15 × Bool) := callL tt FT SP 27 (show InVals (FT 27) from ((a0, ()), (())))
noncomputable def F_r (a0 : ByteArray) (a1 : Int) : Option Yt9 := callL tt FT SP 28 (show InVals (FT 28) from ((a0, a1, ()), (())))
noncomputable def F_e (a0 : ByteArray) : Option Yt17 := callL tt FT SP 29 (show InVals (FT 29) from ((a0, ()), (())))
noncomputable def F_o (a0 : List SNode) : Option ByteArray := callL tt FT SP 30 (show InVals (FT 30) from ((a0, ()), (())))
noncomputable def F_1w (a0 : SNode) : Option ByteArray := callL tt FT SP 31 (show InVals (FT 31) from ((a0, ()), (())))
noncomputable def F_23 : Option Yt9 := callL tt FT SP 32 (show InVals (FT 32) from ((()), (())))
noncomputable def F_22 : Option Yt9 := callL tt FT SP 33 (show InVals (FT 33) from ((()), (())))
noncomputable def F_t (a0 : SNode) : Option ByteArray := callL tt FT SP 34 (show InVals (FT 34) from ((a0, ()), (())))
noncomputable def F_10 (a0 : List SOp) : Option Yt14 := callL tt FT SP 35 (show InVals (FT 35) from ((a0, ()), (())))
noncomputable def F_g (a0 : SOp) : Option Yt14 := callL tt FT SP 36 (show InVals (FT 36) from ((a0, ()), (())))
noncomputable def F_12 (a0 : List SStep) : Option ByteArray := callL tt FT SP 37 (show InVals (FT 37) from ((a0, ()), (())))
noncomputable def F_11 (a0 : SStep) : Option ByteArray := callL tt FT SP 38 (show InVals (FT 38) from ((a0, ()), (())))
noncomputable def F_2 (a0 : Int) : Option ByteArray := callL tt FT SP 39 (show InVals (FT 39) from ((a0, ()), (())))
noncomputable def F_24 (a0 : Int) : Option ByteArray := callL tt FT SP 40 (show InVals (FT 40) from ((a0, ()), (())))
noncomputable def F_a (a0 : List ByteArray) : Option (ByteArray × Yt9) := callL tt FT SP 41 (show InVals (FT 41) from ((a0, ()), (())))
noncomputable def F_27 (a0 : List ByteArray) (a1 : ByteArray) : Option (ByteArray × Yt9) := callL tt FT SP 42 (show InVals (FT 42) from ((a0, a1, ()), (())))
noncomputable def F_y (a0 : ByteArray) : Option (Yt15 × Bool) := callL tt FT SP 43 (show InVals (FT 43) from ((a0, ()), (())))
noncomputable def F_28 (a0 : ByteArray) (a1 : ByteArray) : Option Yt9 := callL tt FT SP 44 (show InVals (FT 44) from ((a0, a1, ()), (())))
noncomputable def F_29 (a0 : ByteArray) (a1 : ByteArray) (a2 : Int) (a3 : Int) : Option Yt9 := callL tt FT SP 45 (show InVals (FT 45) from ((a0, a1, a2, a3, ()), (())))
noncomputable def F_2a (a0 : ByteArray) (a1 : Int) : Option Yt9 := callL tt FT SP 46 (show InVals (FT 46) from ((a0, a1, ()), (())))
noncomputable def F_u (a0 : ByteArray) (a1 : ByteArray) : Option Int := callL tt FT SP 47 (show InVals (FT 47) from ((a0, a1, ()), (())))
noncomputable def F_26 (a0 : ByteArray) (a1 : ByteArray) : Option Int := callL tt FT SP 48 (show InVals (FT 48) from ((a0, a1, ()), (())))
noncomputable def F_b (a0 : ByteArray) (a1 : ByteArray) : Option Int := callL tt FT SP 49 (show InVals (FT 49) from ((a0, a1, ()), (())))
noncomputable def F_25 (a0 : ByteArray) (a1 : ByteArray) : Option (ByteArray × ByteArray × Bool) := callL tt FT SP 50 (show InVals (FT 50) from ((a0, a1, ()), (())))
noncomputable def F_18 (a0 : ByteArray) (a1 : ByteArray) : Option (ByteArray × ByteArray × Bool) := callL tt FT SP 51 (show InVals (FT 51) from ((a0, a1, ()), (())))
noncomputable def F_9 (a0 : ByteArray) : Option Yt17 := callL tt FT SP 52 (show InVals (FT 52) from ((a0, ()), (())))
noncomputable def F_8 (a0 : List SNode) : Option Bool := callL tt FT SP 53 (show InVals (FT 53) from ((a0, ()), (())))
noncomputable def F_3 (a0 : Int) (a1 : Int) (a2 : Int) : Option Bool := callL tt FT SP 54 (show InVals (FT 54) from ((a0, a1, a2, ()), (())))
noncomputable def F_1p (a0 : List SNode) : Option Bool := callL tt FT SP 55 (show InVals (FT 55) from ((a0, (()), ()), (())))
noncomputable def F_1t (a0 : List SNode) : Option Int := callL tt FT SP 56 (show InVals (FT 56) from ((a0, (()), ()), (())))
noncomputable def F_z (a0 : SNode) : Option Bool := callL tt FT SP 57 (show InVals (FT 57) from ((a0, ()), (())))
noncomputable def F_7 (a0 : SNode) : Option Bool := callL tt FT SP 58 (show InVals (FT 58) from ((a0, ()), (())))
noncomputable def F_13 (a0 : ByteArray) : Option Bool := callL tt FT SP 59 (show InVals (FT 59) from ((a0, ()), (())))
noncomputable def F_4 (a0 : Int) : Option Bool := callL tt FT SP 60 (show InVals (FT 60) from ((a0, ()), (())))
noncomputable def F_j (a0 : Int) : Option Bool := callL tt FT SP 61 (show InVals (FT 61) from ((a0, ()), (())))
noncomputable def F_14 (a0 : Int) : Option Bool := callL tt FT SP 62 (show InVals (FT 62) from ((a0, ()), (())))
noncomputable def F_1q (a0 : List Int) : Option Bool := callL tt FT SP 63 (show InVals (FT 63) from ((a0, (()), ()), (())))
noncomputable def F_1u (a0 : List Int) : Option Int := callL tt FT SP 64 (show InVals (FT 64) from ((a0, (()), ()), (())))
noncomputable def F_w (a0 : Int) : Option Bool := callL tt FT SP 65 (show InVals (FT 65) from ((a0, ()), (())))
noncomputable def F_17 (a0 : SNode) (a1 : SNode) : Option Bool := callL tt FT SP 66 (show InVals (FT 66) from ((a0, a1, ()), (())))
noncomputable def F_1s (a0 : List Int) (a1 : List Int) : Option Bool := callL tt FT SP 67 (show InVals (FT 67) from ((a0, a1, ()), (())))
noncomputable def F_i (a0 : List SNode) (a1 : Int) (a2 : Int) : Option Int := callL tt FT SP 68 (show InVals (FT 68) from ((a0, a1, a2, ()), (())))
noncomputable def F_v (a0 : Int) : Option Int := callL tt FT SP 69 (show InVals (FT 69) from ((a0, ()), (())))
noncomputable def F_1r (a0 : List SStep) (a1 : List SStep) : Option Bool := callL tt FT SP 70 (show InVals (FT 70) from ((a0, a1, ()), (())))
noncomputable def F_h (a0 : List SNode) : Option ByteArray := callL tt FT SP 71 (show InVals (FT 71) from ((a0, ()), (())))
noncomputable def F_x (a0 : SNode) : Option ByteArray := callL tt FT SP 72 (show InVals (FT 72) from ((a0, ()), (())))
noncomputable def F_15 : Option Yt9 := callL tt FT SP 73 (show InVals (FT 73) from ((()), (())))
noncomputable def F_16 : Option Yt9 := callL tt FT SP 74 (show InVals (FT 74) from ((()), (())))
noncomputable def F_f (a0 : SNode) : Option ByteArray := callL tt FT SP 75 (show InVals (FT 75) from ((a0, ()), (())))
noncomputable def F_1d (a0 : List SOp) (a1 : List SOp) : Option Bool := callL tt FT SP 76 (show InVals (FT 76) from ((a0, a1, ()), (())))
noncomputable def F_1c (a0 : SOp) (a1 : SOp) : Option Bool := callL tt FT SP 77 (show InVals (FT 77) from ((a0, a1, ()), (())))
noncomputable def F_k (a0 : List SNode) (a1 : List SNode) : Option Bool := callL tt FT SP 78 (show InVals (FT 78) from ((a0, a1, ()), (())))
noncomputable def F_1b (a0 : SNode) (a1 : SNode) : Option Bool := callL tt FT SP 79 (show InVals (FT 79) from ((a0, a1, ()), (())))
noncomputable def F_1a (a0 : List Int) (a1 : List Int) : Option Bool := callL tt FT SP 80 (show InVals (FT 80) from ((a0, a1, ()), (())))
noncomputable def F_1f (a0 : List SStep) (a1 : List SStep) : Option Bool := callL tt FT SP 81 (show InVals (FT 81) from ((a0, a1, ()), (())))
noncomputable def F_1e (a0 : SStep) (a1 : SStep) : Option Bool := callL tt FT SP 82 (show InVals (FT 82) from ((a0, a1, ()), (())))
@[simp] noncomputable def J_y (a0 : List SOp) (y4 : List SOp) (v6 : Bool) : Option Bool :=
 (bif v6 then
 some false
 else (F_6 a0).bind (fun y7 => (F_1d y4 y7).bind (fun y8 => (bif (!y8) then
 some false
 else some true))))
theorem U_s (a0 : List SOp) : Le ((F_1j a0 1048576).bind (fun y1 => (bif (decide (y1 < 0)) then
 some true
 else (F_6 a0).bind (fun y2 => (F_1z y2).bind (fun y3 => (F_6 a0).bind (fun y4 => (F_10 y4).bind (fun y5 => joinK ((bif (!(y5.1.toList == y3.1.toList)) then
 some (.go true)
 else some (.go (y5.2 != y3.2))))
 (fun s => J_y a0 y4 s)))))))) (F_19 a0) := callL_le (tt := tt) (FT := FT) (SP := SP) (j := 0) rfl (by kernel_rfl)
noncomputable def L_v (a0 : List SOp) (f0 : (Int × Int × Int) → Option (Ex Int (Int × Int))) (v1 : Int) (v2 : Int) (v3 : Int) : Option (Ex Int (Int × Int)) :=
 (bif (decide (v3 < (a0.length : Int))) then
 (ix a0 v3).bind (fun z4 => (F_1i z4 v1).bind (fun y5 => (bif (decide (y5 < 0)) then
 some (.ret (-1))
 else f0 (y5, v2, (IntKind.i64.wrap (v3 + 1))))))
 else some (.go (v1, v2)))
@[simp] noncomputable def J_1s (v6 : Int) (v7 : Int) : Option Int :=
 some v6
theorem U_14 (a0 : List SOp) (a1 : Int) : Le ((bif (decide ((IntKind.i64.wrap (a1 - (a0.length : Int))) < 0)) then
 some (-1)
 else joinK (loopF (fun f s => L_v a0 f s.1 s.2.1 s.2.2) ((IntKind.i64.wrap (a1 - (a0.length : Int))), 0, 0))
 (fun s => J_1s s.1 s.2))) (F_1j a0 a1) := callL_le (tt := tt) (FT := FT) (SP := SP) (j := 1) rfl (by kernel_rfl)
theorem U_13 (a0 : SOp) (a1 : Int) : Le ((F_l a0.2.1 a1).bind (fun y1 => (bif (decide (y1 < 0)) then
 some (-1)
 else (F_l a0.2.2.1 y1).bind (fun y2 => (bif (decide (y2 < 0)) then
 some (-1)
 else (F_1k a0.2.2.2.1 y2).bind (fun y3 => (bif (decide (y3 < 0)) then
 some (-1)
 else some y3))))))) (F_1i a0 a1) := callL_le (tt := tt) (FT := FT) (SP := SP) (j := 2) rfl (by kernel_rfl)
noncomputable def L_u (a0 : List SNode) (f0 : (Int × Int × Int) → Option (Ex Int (Int × Int))) (v1 : Int) (v2 : Int) (v3 : Int) : Option (Ex Int (Int × Int)) :=
 (bif (decide (v3 < (a0.length : Int))) then
 (ix a0 v3).bind (fun z4 => (F_1h z4 v1).bind (fun y5 => (bif (decide (y5 < 0)) then
 some (.ret (-1))
 else f0 (y5, v2, (IntKind.i64.wrap (v3 + 1))))))
 else some (.go (v1, v2)))
@[simp] noncomputable def J_1r (v6 : Int) (v7 : Int) : Option Int :=
 some v6
theorem U_12 (a0 : List SNode) (a1 : Int) : Le ((bif (decide ((IntKind.i64.wrap (a1 - (a0.length : Int))) < 0)) then
 some (-1)
 else joinK (loopF (fun f s => L_u a0 f s.1 s.2.1 s.2.2) ((IntKind.i64.wrap (a1 - (a0.length : Int))), 0, 0))
 (fun s => J_1r s.1 s.2))) (F_l a0 a1) := callL_le (tt := tt) (FT := FT) (SP := SP) (j := 3) rfl (by kernel_rfl)
theorem U_11 (a0 : SNode) (a1 : Int) : Le ((bif (decide ((IntKind.i64.wrap (a1 - (a0.2.1.size : Int))) < 0)) then
 some (-1)
 else (F_1g a0.2.2.2.2.2.2.1 (IntKind.i64.wrap (a1 - (a0.2.1.size : Int)))).bind (fun y1 => (bif (decide (y1 < 0)) then
 some (-1)
 else some y1)))) (F_1h a0 a1) := callL_le (tt := tt) (FT := FT) (SP := SP) (j := 4) rfl (by kernel_rfl)
theorem U_10 (a0 : List Int) (a1 : Int) : Le ((bif (decide ((IntKind.i64.wrap (a1 - (a0.length : Int))) < 0)) then
 some (-1)
 else some (IntKind.i64.wrap (a1 - (a0.length : Int))))) (F_1g a0 a1) := callL_le (tt := tt) (FT := FT) (SP := SP) (j := 5) rfl (by kernel_rfl)
theorem U_15 (a0 : List SStep) (a1 : Int) : Le ((bif (decide ((IntKind.i64.wrap (a1 - (a0.length : Int))) < 0)) then
 some (-1)
 else some (IntKind.i64.wrap (a1 - (a0.length : Int))))) (F_1k a0 a1) := callL_le (tt := tt) (FT := FT) (SP := SP) (j := 6) rfl (by kernel_rfl)
noncomputable def L_y (a0 : List SOp) (f0 : ((List SOp) × Int) → Option (Ex (List SOp) (List SOp))) (v2 : List SOp) (v3 : Int) : Option (Ex (List SOp) (List SOp)) :=
 (bif (decide (v3 < (a0.length : Int))) then
 (ix a0 v3).bind (fun z4 => (F_1n z4).bind (fun y5 => (ix v2 v3).bind (fun z6 => (stx v2 v3 y5).bind (fun z7 => f0 (z7, (IntKind.i64.wrap (v3 + 1)))))))
 else some (.go v2))
@[simp] noncomputable def J_1v (v8 : List SOp) : Option (List SOp) :=
 some v8
theorem U_1a (a0 : List SOp) : Le ((mkx (a0.length : Int) ((0, ([], ([], ([], ())))) : SOp)).bind (fun z1 => joinK (loopF (fun f s => L_y a0 f s.1 s.2) (z1, 0))
 (fun s => J_1v s))) (F_6 a0) := callL_le (tt := tt) (FT := FT) (SP := SP) (j := 7) rfl (by kernel_rfl)
theorem U_19 (a0 : SOp) : Le ((F_m a0.2.1).bind (fun y1 => (F_m a0.2.2.1).bind (fun y2 => (F_1o a0.2.2.2.1).bind (fun y3 => some (a0.1, (y1, (y2, (y3, ())))))))) (F_1n a0) := callL_le (tt := tt) (FT := FT) (SP := SP) (j := 8) rfl (by kernel_rfl)
noncomputable def L_x (a0 : List SNode) (f0 : ((List SNode) × Int) → Option (Ex (List SNode) (List SNode))) (v2 : List SNode) (v3 : Int) : Option (Ex (List SNode) (List SNode)) :=
 (bif (decide (v3 < (a0.length : Int))) then
 (ix a0 v3).bind (fun z4 => (F_1m z4).bind (fun y5 => (ix v2 v3).bind (fun z6 => (stx v2 v3 y5).bind (fun z7 => f0 (z7, (IntKind.i64.wrap (v3 + 1)))))))
 else some (.go v2))
@[simp] noncomputable def J_1u (v8 : List SNode) : Option (List SNode) :=
 some v8
theorem U_18 (a0 : List SNode) : Le ((mkx (a0.length : Int) ((0, (ByteArray.empty, (0, (0, (0, (false, ([], ()))))))) : SNode)).bind (fun z1 => joinK (loopF (fun f s => L_x a0 f s.1 s.2) (z1, 0))
 (fun s => J_1u s))) (F_m a0) := callL_le (tt := tt) (FT := FT) (SP := SP) (j := 9) rfl (by kernel_rfl)
theorem U_17 (a0 : SNode) : Le ((F_1l a0.2.2.2.2.2.2.1).bind (fun y1 => some (a0.1, (a0.2.1, (a0.2.2.1, (a0.2.2.2.1, (a0.2.2.2.2.1, (a0.2.2.2.2.2.1, (y1, ()))))))))) (F_1m a0) := callL_le (tt := tt) (FT := FT) (SP := SP) (j := 10) rfl (by kernel_rfl)
noncomputable def L_w (a0 : List Int) (f0 : ((List Int) × Int) → Option (Ex (List Int) (List Int))) (v2 : List Int) (v3 : Int) : Option (Ex (List Int) (List Int)) :=
 (bif (decide (v3 < (a0.length : Int))) then
 (ix a0 v3).bind (fun z4 => (ix v2 v3).bind (fun z5 => (stx v2 v3 z4).bind (fun z6 => f0 (z6, (IntKind.i64.wrap (v3 + 1))))))
 else some (.go v2))
@[simp] noncomputable def J_1t (v7 : List Int) : Option (List Int) :=
 some v7
theorem U_16 (a0 : List Int) : Le ((mkx (a0.length : Int) (0 : Int)).bind (fun z1 => joinK (loopF (fun f s => L_w a0 f s.1 s.2) (z1, 0))
 (fun s => J_1t s))) (F_1l a0) := callL_le (tt := tt) (FT := FT) (SP := SP) (j := 11) rfl (by kernel_rfl)
noncomputable def L_z (a0 : List SStep) (f0 : (Yt15 × Int) → Option (Ex Yt15 Yt15)) (v2 : List SStep) (v3 : Int) : Option (Ex Yt15 Yt15) :=
 (bif (decide (v3 < (a0.length : Int))) then
 (ix a0 v3).bind (fun z4 => (F_n z4).bind (fun y5 => (ix v2 v3).bind (fun z6 => (stx v2 v3 y5).bind (fun z7 => f0 (z7, (IntKind.i64.wrap (v3 + 1)))))))
 else some (.go v2))
@[simp] noncomputable def J_1w (v8 : List SStep) : Option Yt15 :=
 some v8
theorem U_1c (a0 : List SStep) : Le ((mkx (a0.length : Int) ((0, (0, ())) : SStep)).bind (fun z1 => joinK (loopF (fun f s => L_z a0 f s.1 s.2) (z1, 0))
 (fun s => J_1w s))) (F_1o a0) := callL_le (tt := tt) (FT := FT) (SP := SP) (j := 12) rfl (by kernel_rfl)
theorem U_1b (a0 : SStep) : Le (some (a0.1, (a0.2.1, ()))) (F_n a0) := callL_le (tt := tt) (FT := FT) (SP := SP) (j := 13) rfl (by kernel_rfl)
@[simp] noncomputable def J_f (v1 : ByteArray) (v2 : Bool) (v5 : Int) (z8 : ByteArray) (v10 : Int) (f0 : (ByteArray × Bool × ByteArray × Int × Int) → Option Yt8) (v11 : Bool) : Option Yt8 :=
 (bif v11 then
 some (.ret (ByteArray.empty, false))
 else f0 (v1, v2, z8, v10, (IntKind.i64.wrap (v5 + 1))))
@[simp] noncomputable def J_15 (v1 : ByteArray) (v2 : Bool) (v5 : Int) (z8 : ByteArray) (f0 : (ByteArray × Bool × ByteArray × Int × Int) → Option Yt8) (v10 : Int) : Option Yt8 :=
 joinK ((bif (decide (v10 > 100)) then
 some (.go true)
 else some (.go (decide ((z8.size : Int) > 4000)))))
 (fun s => J_f v1 v2 v5 z8 v10 f0 s)
noncomputable def L_p (a0 : List SOp) (f0 : (ByteArray × Bool × ByteArray × Int × Int) → Option Yt8) (v1 : ByteArray) (v2 : Bool) (v3 : ByteArray) (v4 : Int) (v5 : Int) : Option Yt8 :=
 (bif (decide (v5 < (a0.length : Int))) then
 (ix a0 v5).bind (fun z6 => (F_1x z6).bind (fun y7 => (bif (!y7.2) then
 some (.ret (ByteArray.empty, false))
 else (addx v3 y7.1).bind (fun z8 => joinK ((ix a0 v5).bind (fun z9 => (bif (z9.1 == 0) then
 some (.go (IntKind.i64.wrap ((IntKind.i64.wrap (v4 + 1)) + 2)))
 else some (.go (IntKind.i64.wrap (v4 + 1))))))
 (fun s => J_15 v1 v2 v5 z8 f0 s)))))
 else some (.go (v1, v2, v3)))
@[simp] noncomputable def J_2e (v12 : ByteArray) (v13 : Bool) (v14 : ByteArray) : Option Yt14 :=
 some (v14, true)
theorem U_1q (a0 : List SOp) : Le (joinK (loopF (fun f s => L_p a0 f s.1 s.2.1 s.2.2.1 s.2.2.2.1 s.2.2.2.2) (ByteArray.empty, false, ByteArray.empty, 0, 0))
 (fun s => J_2e s.1 s.2.1 s.2.2)) (F_1z a0) := callL_le (tt := tt) (FT := FT) (SP := SP) (j := 14) rfl (by kernel_rfl)
@[simp] noncomputable def J_11 (a0 : SOp) (v2 : Bool) : Option Yt14 :=
 (bif v2 then
 some (ByteArray.empty, false)
 else (ix ([ByteArray.empty, (⟨#[99, 97, 116]⟩ : ByteArray), (⟨#[115, 116, 97, 116]⟩ : ByteArray), (⟨#[100, 114, 111, 112]⟩ : ByteArray)]) a0.1).bind (fun z3 => (addx z3 (⟨#[10]⟩ : ByteArray)).bind (fun z4 => some (z4, true))))
noncomputable def L_3 (z11 : ByteArray) (z13 : ByteArray) (z15 : ByteArray) (f0 : Yt18 → Option Yt8) (v16 : ByteArray) (v17 : Bool) (v18 : ByteArray) (v19 : Int) : Option Yt8 :=
 (bif (decide (v19 < 3)) then
 (ix ([z11, z13, z15]) v19).bind (fun z20 => (bif (decide ((z20.size : Int) > 300)) then
 some (.ret (ByteArray.empty, false))
 else (ix ([z11, z13, z15]) v19).bind (fun z21 => (addx v18 z21).bind (fun z22 => (addx z22 (⟨#[10]⟩ : ByteArray)).bind (fun z23 => f0 (v16, v17, z23, (IntKind.i64.wrap (v19 + 1))))))))
 else some (.go (v16, v17, v18)))
@[simp] noncomputable def J_2c (v24 : ByteArray) (v25 : Bool) (v26 : ByteArray) : Option Yt14 :=
 some (v26, true)
@[simp] noncomputable def J_3 (a0 : SOp) (v7 : Bool) : Option Yt14 :=
 (bif v7 then
 some (ByteArray.empty, false)
 else (F_p a0.2.2.2.1).bind (fun y8 => (F_1y y8).bind (fun y9 => (bif (!y9.2) then
 some (ByteArray.empty, false)
 else (F_p a0.2.2.2.1).bind (fun y10 => (addx (⟨#[115, 116, 101, 112, 115, 32]⟩ : ByteArray) y10).bind (fun z11 => (F_o a0.2.2.1).bind (fun y12 => (addx (⟨#[111, 102, 102, 101, 114, 32]⟩ : ByteArray) y12).bind (fun z13 => (F_o a0.2.1).bind (fun y14 => (addx (⟨#[97, 115, 107, 32]⟩ : ByteArray) y14).bind (fun z15 => joinK (loopF (fun f s => L_3 z11 z13 z15 f s.1 s.2.1 s.2.2.1 s.2.2.2) (ByteArray.empty, false, ByteArray.empty, 0))
 (fun s => J_2c s.1 s.2.1 s.2.2)))))))))))
theorem U_1m (a0 : SOp) : Le ((F_0 a0.1 1 3).bind (fun y1 => (bif y1 then
 joinK ((bif (decide ((a0.2.1.length : Int) > 0)) then
 some (.go true)
 else (bif (decide ((a0.2.2.1.length : Int) > 0)) then
 some (.go true)
 else some (.go (decide ((a0.2.2.2.1.length : Int) > 0))))))
 (fun s => J_11 a0 s)
 else joinK ((bif (a0.1 != 0) then
 some (.go true)
 else (F_d a0.2.1).bind (fun y5 => (bif (!y5) then
 some (.go true)
 else (F_d a0.2.2.1).bind (fun y6 => (bif (!y6) then
 some (.go true)
 else some (.go (decide ((a0.2.2.2.1.length : Int) > 20)))))))))
 (fun s => J_3 a0 s)))) (F_1x a0) := callL_le (tt := tt) (FT := FT) (SP := SP) (j := 15) rfl (by kernel_rfl)
@[simp] noncomputable def J_2h (v1 : Bool) : Option Bool :=
 some v1
theorem U_1u (a0 : Int) (a1 : Int) (a2 : Int) : Le (joinK ((bif (decide (a1 ≤ a0)) then
 some (.go (decide (a0 ≤ a2)))
 else some (.go false)))
 (fun s => J_2h s)) (F_0 a0 a1 a2) := callL_le (tt := tt) (FT := FT) (SP := SP) (j := 16) rfl (by kernel_rfl)
noncomputable def L_c (a0 : List SNode) (f0 : Yt19 → Option Yt12) (v2 : Bool) (v3 : Int) : Option Yt12 :=
 (bif (decide (v3 < (a0.length : Int))) then
 (ix a0 v3).bind (fun z4 => (F_c z4).bind (fun y5 => (bif (!y5) then
 some (.ret false)
 else f0 (v2, (IntKind.i64.wrap (v3 + 1))))))
 else some (.go v2))
@[simp] noncomputable def J_14 (a0 : List SNode) (v6 : Bool) : Option Bool :=
 (F_s a0 0 10).bind (fun y7 => some (y7.1 == (a0.length : Int)))
theorem U_1o (a0 : List SNode) : Le ((F_0 (a0.length : Int) 1 40).bind (fun y1 => (bif (!y1) then
 some false
 else joinK (loopF (fun f s => L_c a0 f s.1 s.2) (false, 0))
 (fun s => J_14 a0 s)))) (F_d a0) := callL_le (tt := tt) (FT := FT) (SP := SP) (j := 17) rfl (by kernel_rfl)
@[simp] noncomputable def J_25 (v11 : Bool) : Option Yt12 :=
 some (.ret v11)
@[simp] noncomputable def J_26 (v15 : Bool) : Option Yt12 :=
 some (.ret v15)
noncomputable def L_b (a0 : SNode) (f0 : Yt19 → Option (Ex Yt12 Bool)) (v16 : Bool) (v17 : Int) : Option (Ex Yt12 Bool) :=
 (bif (decide (v17 < (a0.2.2.2.2.2.2.1.length : Int))) then
 (ix a0.2.2.2.2.2.2.1 v17).bind (fun z18 => (F_5 z18).bind (fun y19 => (bif (!y19) then
 some (.ret (.ret false))
 else f0 (v16, (IntKind.i64.wrap (v17 + 1))))))
 else some (.go v16))
@[simp] noncomputable def J_27 (v22 : Bool) : Option Yt12 :=
 some (.ret v22)
@[simp] noncomputable def J_10 (a0 : SNode) (v20 : Bool) : Option Yt12 :=
 joinK ((F_0 (a0.2.2.2.2.2.2.1.length : Int) 1 6).bind (fun y21 => (bif y21 then
 (bif (a0.2.2.1 == 0) then
 (bif (a0.2.2.2.2.1 == 0) then
 some (.go (!a0.2.2.2.2.2.1))
 else some (.go false))
 else some (.go false))
 else some (.go false))))
 (fun s => J_27 s)
@[simp] noncomputable def J_28 (v25 : Bool) : Option Yt12 :=
 some (.ret v25)
@[simp] noncomputable def J_29 (v27 : Bool) : Option Yt12 :=
 some (.ret v27)
@[simp] noncomputable def J_2a (v29 : Bool) : Option Yt12 :=
 some (.ret v29)
@[simp] noncomputable def J_24 (v31 : Bool) : Option Yt12 :=
 some (.ret v31)
@[simp] noncomputable def J_2b (a0 : SNode) (v30 : Bool) : Option Yt12 :=
 (bif v30 then
 joinK ((bif (a0.2.2.1 == 0) then
 (bif (a0.2.2.2.2.1 == 0) then
 some (.go (!a0.2.2.2.2.2.1))
 else some (.go false))
 else some (.go false)))
 (fun s => J_24 s)
 else some (.go false))
@[simp] noncomputable def J_23 (v32 : Bool) : Option Bool :=
 some false
@[simp] noncomputable def J_z (a0 : SNode) (v9 : Bool) : Option Bool :=
 (bif v9 then
 some false
 else joinK ((bif (a0.1 == 0) then
 joinK ((F_21 a0.2.1).bind (fun y10 => (bif y10 then
 (bif (a0.2.2.1 == 0) then
 (bif (a0.2.2.2.2.1 == 0) then
 some (.go (!a0.2.2.2.2.2.1))
 else some (.go false))
 else some (.go false))
 else some (.go false))))
 (fun s => J_25 s)
 else (bif (a0.1 == 1) then
 joinK ((F_5 a0.2.2.1).bind (fun y12 => (bif y12 then
 (F_0 a0.2.2.2.1 0 3).bind (fun y13 => (bif y13 then
 (F_q a0.2.2.2.2.1).bind (fun y14 => (bif y14 then
 (bif (a0.2.2.2.1 != 3) then
 some (.go true)
 else (bif (a0.2.2.2.2.1 == 0) then
 some (.go (!a0.2.2.2.2.2.1))
 else some (.go false)))
 else some (.go false)))
 else some (.go false)))
 else some (.go false))))
 (fun s => J_26 s)
 else (bif (a0.1 == 2) then
 joinK (loopF (fun f s => L_b a0 f s.1 s.2) (false, 0))
 (fun s => J_10 a0 s)
 else (bif (a0.1 == 3) then
 joinK ((F_5 a0.2.2.1).bind (fun y23 => (bif y23 then
 (F_5 a0.2.2.2.2.1).bind (fun y24 => (bif y24 then
 some (.go (!a0.2.2.2.2.2.1))
 else some (.go false)))
 else some (.go false))))
 (fun s => J_28 s)
 else (bif (a0.1 == 5) then
 joinK ((F_5 a0.2.2.1).bind (fun y26 => (bif y26 then
 (bif (a0.2.2.2.2.1 == 0) then
 some (.go (!a0.2.2.2.2.2.1))
 else some (.go false))
 else some (.go false))))
 (fun s => J_29 s)
 else (bif (a0.1 == 6) then
 joinK ((bif (a0.2.2.1 == 0) then
 (F_0 a0.2.2.2.2.1 0 1000000).bind (fun y28 => some (.go y28))
 else some (.go false)))
 (fun s => J_2a s)
 else joinK ((bif (a0.1 == 4) then
 some (.go true)
 else some (.go (a0.1 == 7))))
 (fun s => J_2b a0 s))))))))
 (fun s => J_23 s))
theorem U_1k (a0 : SNode) : Le (joinK ((bif (a0.1 != 0) then
 (bif (!(a0.2.1.toList == ByteArray.empty.toList)) then
 some (.go true)
 else (bif (a0.1 != 2) then
 (bif (decide ((a0.2.2.2.2.2.2.1.length : Int) > 0)) then
 some (.go true)
 else (bif (a0.1 != 1) then
 (bif (a0.2.2.2.1 != 0) then
 some (.go true)
 else (bif a0.2.2.2.2.2.1 then
 (F_0 a0.2.2.2.2.1 0 39).bind (fun y1 => some (.go (!y1)))
 else some (.go false)))
 else (bif a0.2.2.2.2.2.1 then
 (F_0 a0.2.2.2.2.1 0 39).bind (fun y2 => some (.go (!y2)))
 else some (.go false))))
 else (bif (a0.1 != 1) then
 (bif (a0.2.2.2.1 != 0) then
 some (.go true)
 else (bif a0.2.2.2.2.2.1 then
 (F_0 a0.2.2.2.2.1 0 39).bind (fun y3 => some (.go (!y3)))
 else some (.go false)))
 else (bif a0.2.2.2.2.2.1 then
 (F_0 a0.2.2.2.2.1 0 39).bind (fun y4 => some (.go (!y4)))
 else some (.go false)))))
 else (bif (a0.1 != 2) then
 (bif (decide ((a0.2.2.2.2.2.2.1.length : Int) > 0)) then
 some (.go true)
 else (bif (a0.1 != 1) then
 (bif (a0.2.2.2.1 != 0) then
 some (.go true)
 else (bif a0.2.2.2.2.2.1 then
 (F_0 a0.2.2.2.2.1 0 39).bind (fun y5 => some (.go (!y5)))
 else some (.go false)))
 else (bif a0.2.2.2.2.2.1 then
 (F_0 a0.2.2.2.2.1 0 39).bind (fun y6 => some (.go (!y6)))
 else some (.go false))))
 else (bif (a0.1 != 1) then
 (bif (a0.2.2.2.1 != 0) then
 some (.go true)
 else (bif a0.2.2.2.2.2.1 then
 (F_0 a0.2.2.2.2.1 0 39).bind (fun y7 => some (.go (!y7)))
 else some (.go false)))
 else (bif a0.2.2.2.2.2.1 then
 (F_0 a0.2.2.2.2.1 0 39).bind (fun y8 => some (.go (!y8)))
 else some (.go false))))))
 (fun s => J_z a0 s)) (F_c a0) := callL_le (tt := tt) (FT := FT) (SP := SP) (j := 18) rfl (by kernel_rfl)
@[simp] noncomputable def J_17 (v4 : Bool) (v5 : Int) (f0 : Yt19 → Option Yt12) (v12 : Bool) : Option Yt12 :=
 (bif v12 then
 some (.ret false)
 else f0 (v4, (IntKind.i64.wrap (v5 + 1))))
noncomputable def L_d (a0 : ByteArray) (f0 : Yt19 → Option Yt12) (v4 : Bool) (v5 : Int) : Option Yt12 :=
 (bif (decide (v5 < (a0.size : Int))) then
 joinK ((bix a0 v5).bind (fun z6 => (bif (decide (z6 < 97)) then
 (bix a0 v5).bind (fun z7 => (bif (decide (z7 < 48)) then
 some (.go true)
 else (bix a0 v5).bind (fun z8 => some (.go (decide (z8 > 57))))))
 else (bix a0 v5).bind (fun z9 => (bif (decide (z9 > 122)) then
 (bix a0 v5).bind (fun z10 => (bif (decide (z10 < 48)) then
 some (.go true)
 else (bix a0 v5).bind (fun z11 => some (.go (decide (z11 > 57))))))
 else some (.go false))))))
 (fun s => J_17 v4 v5 f0 s)
 else some (.go v4))
@[simp] noncomputable def J_2g (v13 : Bool) : Option Bool :=
 some true
@[simp] noncomputable def J_16 (a0 : ByteArray) (v3 : Bool) : Option Bool :=
 (bif v3 then
 some false
 else joinK (loopF (fun f s => L_d a0 f s.1 s.2) (false, 0))
 (fun s => J_2g s))
theorem U_1t (a0 : ByteArray) : Le (joinK ((F_0 (a0.size : Int) 1 12).bind (fun y1 => (bif (!y1) then
 some (.go true)
 else (bix a0 0).bind (fun z2 => some (.go (decide (z2 < 97)))))))
 (fun s => J_16 a0 s)) (F_21 a0) := callL_le (tt := tt) (FT := FT) (SP := SP) (j := 19) rfl (by kernel_rfl)
theorem U_1z (a0 : Int) : Le ((F_0 a0 0 63).bind (fun y1 => some y1)) (F_5 a0) := callL_le (tt := tt) (FT := FT) (SP := SP) (j := 20) rfl (by kernel_rfl)
theorem U_1w (a0 : Int) : Le ((F_0 a0 (-1000000) 1000000).bind (fun y1 => some y1)) (F_q a0) := callL_le (tt := tt) (FT := FT) (SP := SP) (j := 21) rfl (by kernel_rfl)
@[simp] noncomputable def J_1d (v6 : Int) (f0 : (Int × Int × Int × Int × Int) → Option Yt16) (v10 : Int) (v11 : Int) (v12 : Int) (v13 : Int) : Option Yt16 :=
 f0 (v10, v11, v12, v13, (IntKind.i64.wrap (v6 + 1)))
noncomputable def L_1 (a0 : List SNode) (a1 : Int) (a2 : Int) (f0 : (Int × Int × Int × Int × Int) → Option Yt16) (v2 : Int) (v3 : Int) (v4 : Int) (v5 : Int) (v6 : Int) : Option Yt16 :=
 (ix a0 a1).bind (fun z7 => (F_1v z7.1).bind (fun y8 => (bif (decide (v6 < y8)) then
 joinK ((F_s a0 v4 (IntKind.i64.wrap (a2 - 1))).bind (fun y9 => (bif (decide (y9.1 < 0)) then
 some (.ret (.ret ((-1), 0)))
 else (bif (decide (y9.2 > v5)) then
 some (.go (v2, v3, y9.1, y9.2))
 else some (.go (v2, v3, y9.1, v5))))))
 (fun s => J_1d v6 f0 s.1 s.2.1 s.2.2.1 s.2.2.2)
 else some (.go (v2, v3, v4, v5)))))
@[simp] noncomputable def J_8 (v14 : Int) (v15 : Int) (v16 : Int) (v17 : Int) : Option (Int × Int) :=
 some (v16, (IntKind.i64.wrap (v17 + 1)))
@[simp] noncomputable def J_i (a0 : List SNode) (a1 : Int) (a2 : Int) (v1 : Bool) : Option (Int × Int) :=
 (bif v1 then
 some ((-1), 0)
 else joinK (loopF (fun f s => L_1 a0 a1 a2 f s.1 s.2.1 s.2.2.1 s.2.2.2.1 s.2.2.2.2) (0, 0, (IntKind.i64.wrap (a1 + 1)), 0, 0))
 (fun s => J_8 s.1 s.2.1 s.2.2.1 s.2.2.2))
theorem U_2 (a0 : List SNode) (a1 : Int) (a2 : Int) : Le (joinK ((bif (decide (a1 ≥ (a0.length : Int))) then
 some (.go true)
 else some (.go (a2 == 0))))
 (fun s => J_i a0 a1 a2 s)) (F_s a0 a1 a2) := callL_le (tt := tt) (FT := FT) (SP := SP) (j := 22) rfl (by kernel_rfl)
@[simp] noncomputable def J_22 (v2 : Bool) : Option Int :=
 (bif v2 then
 some 1
 else some (-1))
@[simp] noncomputable def J_21 (a0 : Int) (v1 : Bool) : Option Int :=
 (bif v1 then
 some 2
 else joinK ((bif (a0 == 1) then
 some (.go true)
 else (bif (a0 == 2) then
 some (.go true)
 else (bif (a0 == 5) then
 some (.go true)
 else (bif (a0 == 6) then
 some (.go true)
 else some (.go (a0 == 7)))))))
 (fun s => J_22 s))
theorem U_1j (a0 : Int) : Le ((bif (a0 == 0) then
 some 0
 else joinK ((bif (a0 == 3) then
 some (.go true)
 else some (.go (a0 == 4))))
 (fun s => J_21 a0 s))) (F_1v a0) := callL_le (tt := tt) (FT := FT) (SP := SP) (j := 23) rfl (by kernel_rfl)
@[simp] noncomputable def J_g (a0 : List SStep) (v2 : Int) (f0 : (ByteArray × Int) → Option Yt13) (v4 : ByteArray) : Option Yt13 :=
 (ix a0 v2).bind (fun z5 => (F_20 z5).bind (fun y6 => (addx v4 y6).bind (fun z7 => f0 (z7, (IntKind.i64.wrap (v2 + 1))))))
noncomputable def L_q (a0 : List SStep) (f0 : (ByteArray × Int) → Option Yt13) (v1 : ByteArray) (v2 : Int) : Option Yt13 :=
 (bif (decide (v2 < (a0.length : Int))) then
 joinK ((bif (decide (v2 > 0)) then
 (addx v1 (⟨#[32]⟩ : ByteArray)).bind (fun z3 => some (.go z3))
 else some (.go v1)))
 (fun s => J_g a0 v2 f0 s)
 else some (.go v1))
@[simp] noncomputable def J_2f (v8 : ByteArray) : Option ByteArray :=
 some v8
theorem U_1s (a0 : List SStep) : Le ((bif (decide ((a0.length : Int) > 20)) then
 some ByteArray.empty
 else joinK (loopF (fun f s => L_q a0 f s.1 s.2) (ByteArray.empty, 0))
 (fun s => J_2f s))) (F_p a0) := callL_le (tt := tt) (FT := FT) (SP := SP) (j := 24) rfl (by kernel_rfl)
theorem U_1r (a0 : SStep) : Le ((F_1 a0.1).bind (fun y1 => (addx y1 (⟨#[64]⟩ : ByteArray)).bind (fun z2 => (F_1 a0.2.1).bind (fun y3 => (addx z2 y3).bind (fun z4 => some z4))))) (F_20 a0) := callL_le (tt := tt) (FT := FT) (SP := SP) (j := 25) rfl (by kernel_rfl)
@[simp] noncomputable def J_5 (v1 : Int) (v2 : ByteArray) (f0 : (Int × ByteArray) → Option Yt13) (v4 : Int) : Option Yt13 :=
 (addx (bsOf ([(IntKind.u8.wrap (IntKind.i64.wrap (48 + v4)))])) v2).bind (fun z5 => (quox v1 10).bind (fun z6 => f0 (z6, z5)))
noncomputable def L_r (f0 : (Int × ByteArray) → Option Yt13) (v1 : Int) (v2 : ByteArray) : Option Yt13 :=
 (bif (v1 != 0) then
 (remx v1 10).bind (fun z3 => joinK ((bif (decide (z3 < 0)) then
 some (.go (IntKind.i64.wrap (0 - z3)))
 else some (.go z3)))
 (fun s => J_5 v1 v2 f0 s))
 else some (.go v2))
@[simp] noncomputable def J_18 (a0 : Int) (v7 : ByteArray) : Option ByteArray :=
 (bif (decide (a0 < 0)) then
 (addx (⟨#[45]⟩ : ByteArray) v7).bind (fun z8 => some z8)
 else some v7)
theorem U_1v (a0 : Int) : Le ((bif (a0 == 0) then
 some (⟨#[48]⟩ : ByteArray)
 else joinK (loopF (fun f s => L_r f s.1 s.2) (a0, ByteArray.empty))
 (fun s => J_18 a0 s))) (F_1 a0) := callL_le (tt := tt) (FT := FT) (SP := SP) (j := 26) rfl (by kernel_rfl)
@[simp] noncomputable def J_13 (v2 : List SStep) (v3 : Bool) (v4 : List SStep) (v5 : Int) (y9 : Yt17) (y11 : Yt17) (f0 : (Yt15 × Bool × Yt15 × Int) → Option Yt10) (v12 : Bool) : Option Yt10 :=
 (bif v12 then
 some (.ret ([], false))
 else (apx v4 ([(y9.1, (y11.1, ()))])).bind (fun z13 => f0 (v2, v3, z13, (IntKind.i64.wrap (v5 + 1)))))
noncomputable def L_n (y1 : List ByteArray) (f0 : (Yt15 × Bool × Yt15 × Int) → Option Yt10) (v2 : List SStep) (v3 : Bool) (v4 : List SStep) (v5 : Int) : Option Yt10 :=
 (bif (decide (v5 < (y1.length : Int))) then
 (ix y1 v5).bind (fun z6 => (F_r z6 64).bind (fun y7 => (bif ((y7.length : Int) != 2) then
 some (.ret ([], false))
 else (ix y7 0).bind (fun z8 => (F_e z8).bind (fun y9 => (ix y7 1).bind (fun z10 => (F_e z10).bind (fun y11 => joinK ((bif (!y9.2) then
 some (.go true)
 else (bif (!y11.2) then
 some (.go true)
 else (bif (decide (y9.1 < 0)) then
 some (.go true)
 else some (.go (decide (y11.1 < 0)))))))
 (fun s => J_13 v2 v3 v4 v5 y9 y11 f0 s))))))))
 else some (.go (v2, v3, v4)))
@[simp] noncomputable def J_12 (v14 : List SStep) (v15 : Bool) (v16 : List SStep) : Option (Yt15 × Bool) :=
 (bif (decide ((v16.length : Int) > 20)) then
 some ([], false)
 else some (v16, true))
theorem U_1n (a0 : ByteArray) : Le ((bif (a0.toList == ByteArray.empty.toList) then
 some ([], true)
 else (bif (decide ((a0.size : Int) > 400)) then
 some ([], false)
 else (F_r a0 32).bind (fun y1 => joinK (loopF (fun f s => L_n y1 f s.1 s.2.1 s.2.2.1 s.2.2.2) ([], false, [], 0))
 (fun s => J_12 s.1 s.2.1 s.2.2))))) (F_1y a0) := callL_le (tt := tt) (FT := FT) (SP := SP) (j := 27) rfl (by kernel_rfl)
@[simp] noncomputable def J_h (a0 : ByteArray) (v1 : List ByteArray) (v2 : Int) (v3 : Int) (v5 : Bool) : Option (Ex (Ex Yt9 Yt9) (Yt9 × Int)) :=
 (bif v5 then
 (ssx a0 v2 v3).bind (fun z6 => (apx v1 ([z6])).bind (fun z7 => some (.go (z7, (IntKind.i64.wrap (v3 + 1))))))
 else some (.go (v1, v2)))
@[simp] noncomputable def J_6 (v3 : Int) (f0 : (Yt9 × Int × Int) → Option (Ex Yt9 Yt9)) (v8 : List ByteArray) (v9 : Int) : Option (Ex Yt9 Yt9) :=
 f0 (v8, v9, (IntKind.i64.wrap (v3 + 1)))
noncomputable def L_s (a0 : ByteArray) (a1 : Int) (f0 : (Yt9 × Int × Int) → Option (Ex Yt9 Yt9)) (v1 : List ByteArray) (v2 : Int) (v3 : Int) : Option (Ex Yt9 Yt9) :=
 (bif (decide (v3 ≤ (a0.size : Int))) then
 joinK (joinK ((bif (v3 == (a0.size : Int)) then
 some (.go true)
 else (bix a0 v3).bind (fun z4 => some (.go (z4 == a1)))))
 (fun s => J_h a0 v1 v2 v3 s))
 (fun s => J_6 v3 f0 s.1 s.2)
 else some (.go v1))
@[simp] noncomputable def J_2i (v10 : List ByteArray) : Option Yt9 :=
 some v10
theorem U_1x (a0 : ByteArray) (a1 : Int) : Le (joinK (loopF (fun f s => L_s a0 a1 f s.1 s.2.1 s.2.2) ([], 0, 0))
 (fun s => J_2i s)) (F_r a0 a1) := callL_le (tt := tt) (FT := FT) (SP := SP) (j := 28) rfl (by kernel_rfl)
@[simp] noncomputable def J_7 (a0 : ByteArray) (v2 : Bool) : Option (Ex Yt17 ByteArray) :=
 (bif v2 then
 (ssx a0 1 (a0.size : Int)).bind (fun z3 => some (.go z3))
 else some (.go a0))
@[simp] noncomputable def J_1b (v4 : ByteArray) (v6 : Int) (v7 : Bool) (v8 : Int) (v9 : Int) (f0 : (Int × Bool × Int × Int) → Option (Ex Yt17 (Int × Bool × Int))) (v12 : Bool) : Option (Ex Yt17 (Int × Bool × Int)) :=
 (bif v12 then
 some (.ret (0, false))
 else (bix v4 v9).bind (fun z13 => f0 (v6, v7, (IntKind.i64.wrap ((IntKind.i64.wrap ((IntKind.i64.wrap (10 * v8)) + (IntKind.i64.wrap z13))) - 48)), (IntKind.i64.wrap (v9 + 1)))))
noncomputable def L_4 (v4 : ByteArray) (f0 : (Int × Bool × Int × Int) → Option (Ex Yt17 (Int × Bool × Int))) (v6 : Int) (v7 : Bool) (v8 : Int) (v9 : Int) : Option (Ex Yt17 (Int × Bool × Int)) :=
 (bif (decide (v9 < (v4.size : Int))) then
 joinK ((bix v4 v9).bind (fun z10 => (bif (decide (z10 < 48)) then
 some (.go true)
 else (bix v4 v9).bind (fun z11 => some (.go (decide (z11 > 57)))))))
 (fun s => J_1b v4 v6 v7 v8 v9 f0 s)
 else some (.go (v6, v7, v8)))
@[simp] noncomputable def J_2j (v20 : Int) (v21 : Bool) : Option Yt17 :=
 some (v20, v21)
@[simp] noncomputable def J_1c (a0 : ByteArray) (v17 : Int) : Option Yt17 :=
 joinK ((F_1 v17).bind (fun y18 => (bif (y18.toList == a0.toList) then
 (F_q v17).bind (fun y19 => some (.go (v17, y19)))
 else some (.go (v17, false)))))
 (fun s => J_2j s.1 s.2)
@[simp] noncomputable def J_1a (a0 : ByteArray) (v4 : ByteArray) (v14 : Int) (v15 : Bool) (v16 : Int) : Option Yt17 :=
 joinK ((bif (decide ((v4.size : Int) < (a0.size : Int))) then
 some (.go (IntKind.i64.wrap (0 - v16)))
 else some (.go v16)))
 (fun s => J_1c a0 s)
@[simp] noncomputable def J_19 (a0 : ByteArray) (v4 : ByteArray) : Option Yt17 :=
 (F_0 (v4.size : Int) 1 7).bind (fun y5 => (bif (!y5) then
 some (0, false)
 else joinK (loopF (fun f s => L_4 v4 f s.1 s.2.1 s.2.2.1 s.2.2.2) (0, false, 0, 0))
 (fun s => J_1a a0 v4 s.1 s.2.1 s.2.2)))
theorem U_1y (a0 : ByteArray) : Le (joinK (joinK ((bif (decide ((a0.size : Int) > 0)) then
 (bix a0 0).bind (fun z1 => some (.go (z1 == 45)))
 else some (.go false)))
 (fun s => J_7 a0 s))
 (fun s => J_19 a0 s)) (F_e a0) := callL_le (tt := tt) (FT := FT) (SP := SP) (j := 29) rfl (by kernel_rfl)
@[simp] noncomputable def J_e (a0 : List SNode) (v3 : Int) (f0 : (ByteArray × Int) → Option Yt13) (v5 : ByteArray) : Option Yt13 :=
 (ix a0 v3).bind (fun z6 => (F_1w z6).bind (fun y7 => (addx v5 y7).bind (fun z8 => f0 (z8, (IntKind.i64.wrap (v3 + 1))))))
noncomputable def L_o (a0 : List SNode) (f0 : (ByteArray × Int) → Option Yt13) (v2 : ByteArray) (v3 : Int) : Option Yt13 :=
 (bif (decide (v3 < (a0.length : Int))) then
 joinK ((bif (decide (v3 > 0)) then
 (addx v2 (⟨#[32]⟩ : ByteArray)).bind (fun z4 => some (.go z4))
 else some (.go v2)))
 (fun s => J_e a0 v3 f0 s)
 else some (.go v2))
@[simp] noncomputable def J_2d (v9 : ByteArray) : Option ByteArray :=
 some v9
theorem U_1p (a0 : List SNode) : Le ((F_d a0).bind (fun y1 => (bif (!y1) then
 some ByteArray.empty
 else joinK (loopF (fun f s => L_o a0 f s.1 s.2) (ByteArray.empty, 0))
 (fun s => J_2d s)))) (F_o a0) := callL_le (tt := tt) (FT := FT) (SP := SP) (j := 30) rfl (by kernel_rfl)
noncomputable def L_m (a0 : SNode) (f0 : (ByteArray × Int) → Option (Ex ByteArray (ByteArray × ByteArray))) (v19 : ByteArray) (v20 : Int) : Option (Ex ByteArray (ByteArray × ByteArray)) :=
 (bif (decide (v20 < (a0.2.2.2.2.2.2.1.length : Int))) then
 (addx v19 (⟨#[32]⟩ : ByteArray)).bind (fun z21 => (ix a0.2.2.2.2.2.2.1 v20).bind (fun z22 => (F_1 z22).bind (fun y23 => (addx z21 y23).bind (fun z24 => f0 (z24, (IntKind.i64.wrap (v20 + 1)))))))
 else some (.go (ByteArray.empty, v19)))
@[simp] noncomputable def J_1 (v37 : ByteArray) (v38 : ByteArray) : Option ByteArray :=
 some v38
theorem U_1l (a0 : SNode) : Le ((F_c (a0.1, (a0.2.1, (a0.2.2.1, (a0.2.2.2.1, (a0.2.2.2.2.1, (a0.2.2.2.2.2.1, (a0.2.2.2.2.2.2.1, ())))))))).bind (fun y1 => (bif (!y1) then
 some ByteArray.empty
 else (F_23).bind (fun y2 => (ix y2 a0.1).bind (fun z3 => joinK ((bif (a0.1 == 0) then
 (addx z3 (⟨#[32]⟩ : ByteArray)).bind (fun z4 => (addx z4 a0.2.1).bind (fun z5 => some (.ret z5)))
 else (bif (a0.1 == 1) then
 (addx z3 (⟨#[32]⟩ : ByteArray)).bind (fun z6 => (F_1 a0.2.2.1).bind (fun y7 => (addx z6 y7).bind (fun z8 => (addx z8 (⟨#[32]⟩ : ByteArray)).bind (fun z9 => (F_22).bind (fun y10 => (ix y10 a0.2.2.2.1).bind (fun z11 => (addx z9 z11).bind (fun z12 => (bif (a0.2.2.2.1 != 3) then
 (addx z12 (⟨#[32]⟩ : ByteArray)).bind (fun z13 => (F_t (a0.1, (a0.2.1, (a0.2.2.1, (a0.2.2.2.1, (a0.2.2.2.2.1, (a0.2.2.2.2.2.1, (a0.2.2.2.2.2.2.1, ())))))))).bind (fun y14 => (addx z13 y14).bind (fun z15 => some (.go (ByteArray.empty, z15)))))
 else some (.go (ByteArray.empty, z12))))))))))
 else (bif (a0.1 == 2) then
 (addx z3 (⟨#[32]⟩ : ByteArray)).bind (fun z16 => (F_1 (a0.2.2.2.2.2.2.1.length : Int)).bind (fun y17 => (addx z16 y17).bind (fun z18 => loopF (fun f s => L_m a0 f s.1 s.2) (z18, 0))))
 else (bif (a0.1 == 3) then
 (addx z3 (⟨#[32]⟩ : ByteArray)).bind (fun z25 => (F_1 a0.2.2.1).bind (fun y26 => (addx z25 y26).bind (fun z27 => (addx z27 (⟨#[32]⟩ : ByteArray)).bind (fun z28 => (F_1 a0.2.2.2.2.1).bind (fun y29 => (addx z28 y29).bind (fun z30 => some (.go (ByteArray.empty, z30))))))))
 else (bif (a0.1 == 5) then
 (addx z3 (⟨#[32]⟩ : ByteArray)).bind (fun z31 => (F_1 a0.2.2.1).bind (fun y32 => (addx z31 y32).bind (fun z33 => some (.go (ByteArray.empty, z33)))))
 else (bif (a0.1 == 6) then
 (addx z3 (⟨#[32]⟩ : ByteArray)).bind (fun z34 => (F_t (a0.1, (a0.2.1, (a0.2.2.1, (a0.2.2.2.1, (a0.2.2.2.2.1, (a0.2.2.2.2.2.1, (a0.2.2.2.2.2.2.1, ())))))))).bind (fun y35 => (addx z34 y35).bind (fun z36 => some (.go (ByteArray.empty, z36)))))
 else some (.go (ByteArray.empty, z3)))))))))
 (fun s => J_1 s.1 s.2)))))) (F_1w a0) := callL_le (tt := tt) (FT := FT) (SP := SP) (j := 31) rfl (by kernel_rfl)
theorem U_22 : Le (some ([(⟨#[115, 99, 97, 110]⟩ : ByteArray), (⟨#[102, 105, 108, 116, 101, 114]⟩ : ByteArray), (⟨#[107, 101, 101, 112]⟩ : ByteArray), (⟨#[106, 111, 105, 110]⟩ : ByteArray), (⟨#[98, 111, 116, 104]⟩ : ByteArray), (⟨#[115, 111, 114, 116]⟩ : ByteArray), (⟨#[108, 105, 109, 105, 116]⟩ : ByteArray), (⟨#[111, 110, 99, 101]⟩ : ByteArray)])) (F_23) := callL_le (tt := tt) (FT := FT) (SP := SP) (j := 32) rfl (by kernel_rfl)
theorem U_21 : Le (some ([(⟨#[61]⟩ : ByteArray), (⟨#[60]⟩ : ByteArray), (⟨#[62]⟩ : ByteArray), (⟨#[110, 111, 110, 101]⟩ : ByteArray)])) (F_22) := callL_le (tt := tt) (FT := FT) (SP := SP) (j := 33) rfl (by kernel_rfl)
theorem U_20 (a0 : SNode) : Le ((bif a0.2.2.2.2.2.1 then
 (F_1 a0.2.2.2.2.1).bind (fun y1 => (addx (⟨#[36]⟩ : ByteArray) y1).bind (fun z2 => some z2))
 else (F_1 a0.2.2.2.2.1).bind (fun y3 => some y3))) (F_t a0) := callL_le (tt := tt) (FT := FT) (SP := SP) (j := 34) rfl (by kernel_rfl)
@[simp] noncomputable def J_c (v1 : ByteArray) (v2 : Bool) (v3 : ByteArray) (v4 : Int) (y6 : Yt14) (f0 : Yt18 → Option Yt8) (v7 : Bool) : Option Yt8 :=
 (bif v7 then
 some (.ret (ByteArray.empty, false))
 else (addx v3 y6.1).bind (fun z8 => f0 (v1, v2, z8, (IntKind.i64.wrap (v4 + 1)))))
noncomputable def L_g (a0 : List SOp) (f0 : Yt18 → Option Yt8) (v1 : ByteArray) (v2 : Bool) (v3 : ByteArray) (v4 : Int) : Option Yt8 :=
 (bif (decide (v4 < (a0.length : Int))) then
 (ix a0 v4).bind (fun z5 => (F_g (z5.1, (z5.2.1, (z5.2.2.1, (z5.2.2.2.1, ()))))).bind (fun y6 => joinK ((bif (!y6.2) then
 some (.go true)
 else some (.go (decide ((IntKind.i64.wrap ((v3.size : Int) + (y6.1.size : Int))) > 4000)))))
 (fun s => J_c v1 v2 v3 v4 y6 f0 s)))
 else some (.go (v1, v2, v3)))
@[simp] noncomputable def J_u (v9 : ByteArray) (v10 : Bool) (v11 : ByteArray) : Option Yt14 :=
 (F_u v11 (⟨#[10]⟩ : ByteArray)).bind (fun y12 => (bif (decide (y12 > 100)) then
 some (ByteArray.empty, false)
 else some (v11, true)))
theorem U_d (a0 : List SOp) : Le (joinK (loopF (fun f s => L_g a0 f s.1 s.2.1 s.2.2.1 s.2.2.2) (ByteArray.empty, false, ByteArray.empty, 0))
 (fun s => J_u s.1 s.2.1 s.2.2)) (F_10 a0) := callL_le (tt := tt) (FT := FT) (SP := SP) (j := 35) rfl (by kernel_rfl)
@[simp] noncomputable def J_2 (a0 : SOp) (y1 : ByteArray) (v6 : Bool) : Option (Ex Yt14 (ByteArray × Bool × Yt9)) :=
 (bif v6 then
 some (.ret (ByteArray.empty, false))
 else (addx (⟨#[115, 116, 101, 112, 115, 32]⟩ : ByteArray) y1).bind (fun z7 => (F_h a0.2.2.1).bind (fun y8 => (addx (⟨#[111, 102, 102, 101, 114, 32]⟩ : ByteArray) y8).bind (fun z9 => (F_h a0.2.1).bind (fun y10 => (addx (⟨#[97, 115, 107, 32]⟩ : ByteArray) y10).bind (fun z11 => some (.go (ByteArray.empty, false, [z7, z9, z11]))))))))
@[simp] noncomputable def J_p (a0 : SOp) (v13 : Bool) : Option (Ex Yt14 (ByteArray × Bool × Yt9)) :=
 (bif v13 then
 some (.ret (ByteArray.empty, false))
 else (ix ([ByteArray.empty, (⟨#[99, 97, 116]⟩ : ByteArray), (⟨#[115, 116, 97, 116]⟩ : ByteArray), (⟨#[100, 114, 111, 112]⟩ : ByteArray)]) a0.1).bind (fun z14 => some (.go (ByteArray.empty, false, [z14]))))
@[simp] noncomputable def J_b (a0 : SOp) (v12 : Bool) : Option (Ex Yt14 (ByteArray × Bool × Yt9)) :=
 (bif v12 then
 joinK ((bif (decide ((a0.2.1.length : Int) > 0)) then
 some (.go true)
 else (bif (decide ((a0.2.2.1.length : Int) > 0)) then
 some (.go true)
 else some (.go (decide ((a0.2.2.2.1.length : Int) > 0))))))
 (fun s => J_p a0 s)
 else some (.ret (ByteArray.empty, false)))
noncomputable def L_2 (v17 : List ByteArray) (f0 : Yt18 → Option Yt8) (v18 : ByteArray) (v19 : Bool) (v20 : ByteArray) (v21 : Int) : Option Yt8 :=
 (bif (decide (v21 < (v17.length : Int))) then
 (ix v17 v21).bind (fun z22 => (bif (decide ((z22.size : Int) > 300)) then
 some (.ret (ByteArray.empty, false))
 else (addx z22 (⟨#[10]⟩ : ByteArray)).bind (fun z23 => (addx v20 z23).bind (fun z24 => f0 (v18, v19, z24, (IntKind.i64.wrap (v21 + 1)))))))
 else some (.go (v18, v19, v20)))
@[simp] noncomputable def J_1j (v25 : ByteArray) (v26 : Bool) (v27 : ByteArray) : Option Yt14 :=
 some (v27, true)
@[simp] noncomputable def J_a (v15 : ByteArray) (v16 : Bool) (v17 : List ByteArray) : Option Yt14 :=
 joinK (loopF (fun f s => L_2 v17 f s.1 s.2.1 s.2.2.1 s.2.2.2) (v15, v16, ByteArray.empty, 0))
 (fun s => J_1j s.1 s.2.1 s.2.2)
theorem U_8 (a0 : SOp) : Le (joinK ((bif (a0.1 == 0) then
 (F_12 a0.2.2.2.1).bind (fun y1 => (F_y y1).bind (fun y2 => joinK ((F_8 a0.2.1).bind (fun y3 => (bif (!y3) then
 some (.go true)
 else (F_8 a0.2.2.1).bind (fun y4 => (bif (!y4) then
 some (.go true)
 else (bif (!y2.2) then
 some (.go true)
 else (F_1r y2.1 a0.2.2.2.1).bind (fun y5 => some (.go (!y5)))))))))
 (fun s => J_2 a0 y1 s)))
 else joinK ((bif (a0.1 == 1) then
 some (.go true)
 else (bif (a0.1 == 2) then
 some (.go true)
 else some (.go (a0.1 == 3)))))
 (fun s => J_b a0 s)))
 (fun s => J_a s.1 s.2.1 s.2.2)) (F_g a0) := callL_le (tt := tt) (FT := FT) (SP := SP) (j := 36) rfl (by kernel_rfl)
noncomputable def L_6 (a0 : List SStep) (f0 : (Yt9 × Int) → Option (Ex ByteArray Yt9)) (v1 : List ByteArray) (v2 : Int) : Option (Ex ByteArray Yt9) :=
 (bif (decide (v2 < (a0.length : Int))) then
 (ix a0 v2).bind (fun z3 => (F_11 (z3.1, (z3.2.1, ()))).bind (fun y4 => (apx v1 ([y4])).bind (fun z5 => f0 (z5, (IntKind.i64.wrap (v2 + 1))))))
 else some (.go v1))
@[simp] noncomputable def J_v (v6 : List ByteArray) : Option ByteArray :=
 (F_a v6).bind (fun y7 => some y7.1)
theorem U_f (a0 : List SStep) : Le ((bif (decide ((a0.length : Int) > 20)) then
 some ByteArray.empty
 else joinK (loopF (fun f s => L_6 a0 f s.1 s.2) ([], 0))
 (fun s => J_v s))) (F_12 a0) := callL_le (tt := tt) (FT := FT) (SP := SP) (j := 37) rfl (by kernel_rfl)
theorem U_e (a0 : SStep) : Le ((F_2 a0.1).bind (fun y1 => (addx y1 (⟨#[64]⟩ : ByteArray)).bind (fun z2 => (F_2 a0.2.1).bind (fun y3 => (addx z2 y3).bind (fun z4 => some z4))))) (F_11 a0) := callL_le (tt := tt) (FT := FT) (SP := SP) (j := 38) rfl (by kernel_rfl)
theorem U_m (a0 : Int) : Le ((F_24 a0).bind (fun y1 => some y1)) (F_2 a0) := callL_le (tt := tt) (FT := FT) (SP := SP) (j := 39) rfl (by kernel_rfl)
theorem U_23 (a0 : Int) : Le (itoaF a0) (F_24 a0) := callL_sp (tt := tt) (FT := FT) (SP := SP) (j := 40) (v := (show InVals (FT 40) from ((a0, ()), (())))) (f := fun v => itoaF v.1.1) rfl
theorem U_q (a0 : List ByteArray) : Le ((F_27 a0 (⟨#[32]⟩ : ByteArray)).bind (fun y1 => some (y1.1, y1.2))) (F_a a0) := callL_le (tt := tt) (FT := FT) (SP := SP) (j := 41) rfl (by kernel_rfl)
theorem U_27 (a0 : List ByteArray) (a1 : ByteArray) : Le (joinF a0 a1) (F_27 a0 a1) := callL_sp (tt := tt) (FT := FT) (SP := SP) (j := 42) (v := (show InVals (FT 42) from ((a0, a1, ()), (())))) (f := fun v => joinF v.1.1 v.1.2.1) rfl
@[simp] noncomputable def J_r (v2 : List SStep) (v3 : Bool) (v4 : List SStep) (v5 : Int) (y8 : Yt17) (y9 : Yt17) (f0 : (Yt15 × Bool × Yt15 × Int) → Option Yt10) (v10 : Bool) : Option Yt10 :=
 (bif v10 then
 some (.ret ([], false))
 else (apx v4 ([(y8.1, (y9.1, ()))])).bind (fun z11 => f0 (v2, v3, z11, (IntKind.i64.wrap (v5 + 1)))))
noncomputable def L_f (y1 : List ByteArray) (f0 : (Yt15 × Bool × Yt15 × Int) → Option Yt10) (v2 : List SStep) (v3 : Bool) (v4 : List SStep) (v5 : Int) : Option Yt10 :=
 (bif (decide (v5 < (y1.length : Int))) then
 (ix y1 v5).bind (fun z6 => (F_25 z6 (⟨#[64]⟩ : ByteArray)).bind (fun y7 => (F_9 y7.1).bind (fun y8 => (F_9 y7.2.1).bind (fun y9 => joinK ((bif (!y8.2) then
 some (.go true)
 else (bif (!y9.2) then
 some (.go true)
 else (bif (decide (y8.1 < 0)) then
 some (.go true)
 else some (.go (decide (y9.1 < 0)))))))
 (fun s => J_r v2 v3 v4 v5 y8 y9 f0 s)))))
 else some (.go (v2, v3, v4)))
@[simp] noncomputable def J_q (v12 : List SStep) (v13 : Bool) (v14 : List SStep) : Option (Yt15 × Bool) :=
 (bif (decide ((v14.length : Int) > 20)) then
 some ([], false)
 else some (v14, true))
theorem U_9 (a0 : ByteArray) : Le ((bif (a0.toList == ByteArray.empty.toList) then
 some ([], true)
 else joinK ((F_28 a0 (⟨#[32]⟩ : ByteArray)).bind (fun y1 => loopF (fun f s => L_f y1 f s.1 s.2.1 s.2.2.1 s.2.2.2) ([], false, [], 0)))
 (fun s => J_q s.1 s.2.1 s.2.2))) (F_y a0) := callL_le (tt := tt) (FT := FT) (SP := SP) (j := 43) rfl (by kernel_rfl)
theorem U_28 (a0 : ByteArray) (a1 : ByteArray) : Le ((F_29 a0 a1 0 (-1)).bind (fun y1 => some y1)) (F_28 a0 a1) := callL_le (tt := tt) (FT := FT) (SP := SP) (j := 44) rfl (by kernel_rfl)
noncomputable def L_t (a0 : ByteArray) (a1 : ByteArray) (a2 : Int) (v3 : Int) (f0 : (ByteArray × Yt9 × Int) → Option (Ex Yt9 (ByteArray × Yt9 × Int))) (v5 : ByteArray) (v6 : List ByteArray) (v7 : Int) : Option (Ex Yt9 (ByteArray × Yt9 × Int)) :=
 (bif (decide (v7 < (IntKind.i64.wrap ((mmx false v3 (IntKind.i64.wrap ((a0.size : Int) + 1))) - 1)))) then
 (F_26 v5 a1).bind (fun y8 => (bif (decide (y8 < 0)) then
 some (.go (v5, v6, v7))
 else (ssx v5 0 (IntKind.i64.wrap (y8 + a2))).bind (fun z9 => (ix v6 v7).bind (fun z10 => (stx v6 v7 z9).bind (fun z11 => (ssx v5 (IntKind.i64.wrap (y8 + (a1.size : Int))) (v5.size : Int)).bind (fun z12 => f0 (z12, z11, (IntKind.i64.wrap (v7 + 1)))))))))
 else some (.go (v5, v6, v7)))
@[simp] noncomputable def J_1f (v13 : ByteArray) (v14 : List ByteArray) (v15 : Int) : Option Yt9 :=
 (ix v14 v15).bind (fun z16 => (stx v14 v15 v13).bind (fun z17 => (tkx z17 (IntKind.i64.wrap (v15 + 1))).bind (fun z18 => some z18)))
@[simp] noncomputable def J_1e (a0 : ByteArray) (a1 : ByteArray) (a2 : Int) (v3 : Int) : Option Yt9 :=
 (mkx (mmx false v3 (IntKind.i64.wrap ((a0.size : Int) + 1))) (ByteArray.empty : ByteArray)).bind (fun z4 => joinK (loopF (fun f s => L_t a0 a1 a2 v3 f s.1 s.2.1 s.2.2) (a0, z4, 0))
 (fun s => J_1f s.1 s.2.1 s.2.2))
theorem U_29 (a0 : ByteArray) (a1 : ByteArray) (a2 : Int) (a3 : Int) : Le ((bif (a3 == 0) then
 some ([])
 else (bif (a1.toList == ByteArray.empty.toList) then
 (F_2a a0 a3).bind (fun y1 => some y1)
 else joinK ((bif (decide (a3 < 0)) then
 (F_u a0 a1).bind (fun y2 => some (.go (IntKind.i64.wrap (y2 + 1))))
 else some (.go a3)))
 (fun s => J_1e a0 a1 a2 s)))) (F_29 a0 a1 a2 a3) := callL_le (tt := tt) (FT := FT) (SP := SP) (j := 45) rfl (by kernel_rfl)
theorem U_2a (a0 : ByteArray) (a1 : Int) : Le (none) (F_2a a0 a1) := callL_sp (tt := tt) (FT := FT) (SP := SP) (j := 46) (v := (show InVals (FT 46) from ((a0, a1, ()), (())))) (f := fun _ => none) rfl
theorem U_24 (a0 : ByteArray) (a1 : ByteArray) : Le (countF a0 a1) (F_u a0 a1) := callL_sp (tt := tt) (FT := FT) (SP := SP) (j := 47) (v := (show InVals (FT 47) from ((a0, a1, ()), (())))) (f := fun v => countF v.1.1 v.1.2.1) rfl
theorem U_26 (a0 : ByteArray) (a1 : ByteArray) : Le ((F_b a0 a1).bind (fun y1 => some y1)) (F_26 a0 a1) := callL_le (tt := tt) (FT := FT) (SP := SP) (j := 48) rfl (by kernel_rfl)
theorem U_1 (a0 : ByteArray) (a1 : ByteArray) : Le (indexF a0 a1) (F_b a0 a1) := callL_sp (tt := tt) (FT := FT) (SP := SP) (j := 49) (v := (show InVals (FT 49) from ((a0, a1, ()), (())))) (f := fun v => indexF v.1.1 v.1.2.1) rfl
theorem U_25 (a0 : ByteArray) (a1 : ByteArray) : Le ((F_18 a0 a1).bind (fun y1 => some (y1.1, y1.2.1, y1.2.2))) (F_25 a0 a1) := callL_le (tt := tt) (FT := FT) (SP := SP) (j := 50) rfl (by kernel_rfl)
theorem U_r (a0 : ByteArray) (a1 : ByteArray) : Le ((F_b a0 a1).bind (fun y1 => (bif (decide (y1 ≥ 0)) then
 (ssx a0 0 y1).bind (fun z2 => (ssx a0 (IntKind.i64.wrap (y1 + (a1.size : Int))) (a0.size : Int)).bind (fun z3 => some (z2, z3, true)))
 else some (a0, ByteArray.empty, false)))) (F_18 a0 a1) := callL_le (tt := tt) (FT := FT) (SP := SP) (j := 51) rfl (by kernel_rfl)
theorem U_o (a0 : ByteArray) : Le (readF a0) (F_9 a0) := callL_sp (tt := tt) (FT := FT) (SP := SP) (j := 52) (v := (show InVals (FT 52) from ((a0, ()), (())))) (f := fun v => readF v.1.1) rfl
@[simp] noncomputable def J_s (a0 : List SNode) (v3 : Bool) : Option Bool :=
 (bif v3 then
 some false
 else (F_i a0 0 1).bind (fun y4 => some (y4 == (a0.length : Int))))
theorem U_a (a0 : List SNode) : Le (joinK ((F_3 (a0.length : Int) 1 40).bind (fun y1 => (bif (!y1) then
 some (.go true)
 else (F_1p a0).bind (fun y2 => some (.go y2)))))
 (fun s => J_s a0 s)) (F_8 a0) := callL_le (tt := tt) (FT := FT) (SP := SP) (j := 53) rfl (by kernel_rfl)
@[simp] noncomputable def J_1l (v1 : Bool) : Option Bool :=
 some v1
theorem U_h (a0 : Int) (a1 : Int) (a2 : Int) : Le (joinK ((bif (decide (a0 ≥ a1)) then
 some (.go (decide (a0 ≤ a2)))
 else some (.go false)))
 (fun s => J_1l s)) (F_3 a0 a1 a2) := callL_le (tt := tt) (FT := FT) (SP := SP) (j := 54) rfl (by kernel_rfl)
theorem U_1d (a0 : List SNode) : Le ((F_1t a0).bind (fun y1 => some (decide (y1 ≥ 0)))) (F_1p a0) := callL_le (tt := tt) (FT := FT) (SP := SP) (j := 55) rfl (by kernel_rfl)
noncomputable def L_9 (a0 : List SNode) (f0 : (Int × Int) → Option (Ex Int Int)) (v1 : Int) (v2 : Int) : Option (Ex Int Int) :=
 (bif (decide (v2 < (a0.length : Int))) then
 (ix a0 v2).bind (fun z3 => (F_z z3).bind (fun y4 => (bif y4 then
 some (.ret v2)
 else f0 (v1, (IntKind.i64.wrap (v2 + 1))))))
 else some (.go v1))
@[simp] noncomputable def J_1z (v5 : Int) : Option Int :=
 some (-1)
theorem U_1h (a0 : List SNode) : Le (joinK (loopF (fun f s => L_9 a0 f s.1 s.2) (0, 0))
 (fun s => J_1z s)) (F_1t a0) := callL_le (tt := tt) (FT := FT) (SP := SP) (j := 56) rfl (by kernel_rfl)
theorem U_b (a0 : SNode) : Le ((F_7 (a0.1, (a0.2.1, (a0.2.2.1, (a0.2.2.2.1, (a0.2.2.2.2.1, (a0.2.2.2.2.2.1, (a0.2.2.2.2.2.2.1, ())))))))).bind (fun y1 => some (!y1))) (F_z a0) := callL_le (tt := tt) (FT := FT) (SP := SP) (j := 57) rfl (by kernel_rfl)
@[simp] noncomputable def J_k (a0 : SNode) (v7 : Bool) : Option Yt11 :=
 some (.go (0, a0.2.1, 0, 0, 0, false, a0.2.2.2.2.2.2.1, v7))
@[simp] noncomputable def J_j (a0 : SNode) (v4 : Bool) : Option Yt11 :=
 joinK ((bif (a0.2.2.2.1 == 3) then
 (bif v4 then
 (bif (a0.2.2.2.2.1 == 0) then
 some (.go (!a0.2.2.2.2.2.1))
 else some (.go false))
 else some (.go false))
 else (bif a0.2.2.2.2.2.1 then
 (bif v4 then
 (F_j a0.2.2.2.2.1).bind (fun y5 => some (.go y5))
 else some (.go false))
 else (bif v4 then
 (F_14 a0.2.2.2.2.1).bind (fun y6 => some (.go y6))
 else some (.go false)))))
 (fun s => J_k a0 s)
@[simp] noncomputable def J_l (a0 : SNode) (v10 : Bool) : Option Yt11 :=
 some (.go (0, a0.2.1, a0.2.2.1, a0.2.2.2.1, a0.2.2.2.2.1, a0.2.2.2.2.2.1, [], v10))
@[simp] noncomputable def J_m (a0 : SNode) (v13 : Bool) : Option Yt11 :=
 some (.go (0, a0.2.1, 0, a0.2.2.2.1, 0, a0.2.2.2.2.2.1, a0.2.2.2.2.2.2.1, v13))
@[simp] noncomputable def J_n (a0 : SNode) (v17 : Bool) : Option Yt11 :=
 some (.go (0, a0.2.1, a0.2.2.1, a0.2.2.2.1, 0, false, a0.2.2.2.2.2.2.1, v17))
@[simp] noncomputable def J_o (a0 : SNode) (v18 : Bool) : Option Yt11 :=
 (bif v18 then
 some (.go (0, a0.2.1, a0.2.2.1, a0.2.2.2.1, a0.2.2.2.2.1, a0.2.2.2.2.2.1, a0.2.2.2.2.2.2.1, true))
 else some (.go (0, a0.2.1, a0.2.2.1, a0.2.2.2.1, a0.2.2.2.2.1, a0.2.2.2.2.2.1, a0.2.2.2.2.2.2.1, false)))
@[simp] noncomputable def J_1i (v28 : Bool) : Option Bool :=
 some v28
@[simp] noncomputable def J_0 (v19 : Int) (v20 : ByteArray) (v21 : Int) (v22 : Int) (v23 : Int) (v24 : Bool) (v25 : List Int) (v26 : Bool) : Option Bool :=
 joinK ((bif v26 then
 (F_17 (v19, (v20, (v21, (v22, (v23, (v24, (v25, ()))))))) (0, (ByteArray.empty, (0, (0, (0, (false, ([], ())))))))).bind (fun y27 => some (.go y27))
 else some (.go false)))
 (fun s => J_1i s)
theorem U_4 (a0 : SNode) : Le (joinK ((bif (a0.1 == 0) then
 (F_13 a0.2.1).bind (fun y1 => some (.go (0, ByteArray.empty, a0.2.2.1, a0.2.2.2.1, a0.2.2.2.2.1, a0.2.2.2.2.2.1, a0.2.2.2.2.2.2.1, y1)))
 else (bif (a0.1 == 1) then
 joinK ((F_4 a0.2.2.1).bind (fun y2 => (bif y2 then
 (F_3 a0.2.2.2.1 0 3).bind (fun y3 => some (.go y3))
 else some (.go false))))
 (fun s => J_j a0 s)
 else (bif (a0.1 == 2) then
 joinK ((F_3 (a0.2.2.2.2.2.2.1.length : Int) 1 6).bind (fun y8 => (bif y8 then
 (F_1q a0.2.2.2.2.2.2.1).bind (fun y9 => some (.go (!y9)))
 else some (.go false))))
 (fun s => J_l a0 s)
 else (bif (a0.1 == 3) then
 joinK ((F_4 a0.2.2.1).bind (fun y11 => (bif y11 then
 (F_4 a0.2.2.2.2.1).bind (fun y12 => some (.go y12))
 else some (.go false))))
 (fun s => J_m a0 s)
 else (bif (a0.1 == 5) then
 (F_4 a0.2.2.1).bind (fun y14 => some (.go (0, a0.2.1, 0, a0.2.2.2.1, a0.2.2.2.2.1, a0.2.2.2.2.2.1, a0.2.2.2.2.2.2.1, y14)))
 else (bif (a0.1 == 6) then
 joinK ((F_3 a0.2.2.2.2.1 0 1000000).bind (fun y15 => (bif y15 then
 (bif (!a0.2.2.2.2.2.1) then
 some (.go true)
 else (F_j a0.2.2.2.2.1).bind (fun y16 => some (.go y16)))
 else some (.go false))))
 (fun s => J_n a0 s)
 else joinK ((bif (a0.1 == 4) then
 some (.go true)
 else some (.go (a0.1 == 7))))
 (fun s => J_o a0 s))))))))
 (fun s => J_0 s.1 s.2.1 s.2.2.1 s.2.2.2.1 s.2.2.2.2.1 s.2.2.2.2.2.1 s.2.2.2.2.2.2.1 s.2.2.2.2.2.2.2)) (F_7 a0) := callL_le (tt := tt) (FT := FT) (SP := SP) (j := 58) rfl (by kernel_rfl)
@[simp] noncomputable def J_x (v1 : Bool) (v2 : Int) (f0 : Yt19 → Option Yt12) (v5 : Bool) : Option Yt12 :=
 (bif v5 then
 some (.ret false)
 else f0 (v1, (IntKind.i64.wrap (v2 + 1))))
@[simp] noncomputable def J_w (v1 : Bool) (v2 : Int) (z3 : Int) (f0 : Yt19 → Option Yt12) (v4 : Bool) : Option Yt12 :=
 joinK ((bif (!v4) then
 (bif (v2 == 0) then
 some (.go true)
 else (bif (decide (z3 < 48)) then
 some (.go true)
 else some (.go (decide (z3 > 57)))))
 else some (.go false)))
 (fun s => J_x v1 v2 f0 s)
noncomputable def L_7 (a0 : ByteArray) (f0 : Yt19 → Option Yt12) (v1 : Bool) (v2 : Int) : Option Yt12 :=
 (bif (decide (v2 < (a0.size : Int))) then
 (bix a0 v2).bind (fun z3 => joinK ((bif (decide (z3 ≥ 97)) then
 some (.go (decide (z3 ≤ 122)))
 else some (.go false)))
 (fun s => J_w v1 v2 z3 f0 s))
 else some (.go v1))
@[simp] noncomputable def J_1k (a0 : ByteArray) (v6 : Bool) : Option Bool :=
 (F_3 (a0.size : Int) 1 12).bind (fun y7 => some y7)
theorem U_g (a0 : ByteArray) : Le (joinK (loopF (fun f s => L_7 a0 f s.1 s.2) (false, 0))
 (fun s => J_1k a0 s)) (F_13 a0) := callL_le (tt := tt) (FT := FT) (SP := SP) (j := 59) rfl (by kernel_rfl)
theorem U_i (a0 : Int) : Le ((F_3 a0 0 63).bind (fun y1 => some y1)) (F_4 a0) := callL_le (tt := tt) (FT := FT) (SP := SP) (j := 60) rfl (by kernel_rfl)
theorem U_k (a0 : Int) : Le ((F_3 a0 0 39).bind (fun y1 => some y1)) (F_j a0) := callL_le (tt := tt) (FT := FT) (SP := SP) (j := 61) rfl (by kernel_rfl)
theorem U_j (a0 : Int) : Le ((F_3 a0 (-1000000) 1000000).bind (fun y1 => some y1)) (F_14 a0) := callL_le (tt := tt) (FT := FT) (SP := SP) (j := 62) rfl (by kernel_rfl)
theorem U_1e (a0 : List Int) : Le ((F_1u a0).bind (fun y1 => some (decide (y1 ≥ 0)))) (F_1q a0) := callL_le (tt := tt) (FT := FT) (SP := SP) (j := 63) rfl (by kernel_rfl)
noncomputable def L_a (a0 : List Int) (f0 : (Int × Int) → Option (Ex Int Int)) (v1 : Int) (v2 : Int) : Option (Ex Int Int) :=
 (bif (decide (v2 < (a0.length : Int))) then
 (ix a0 v2).bind (fun z3 => (F_w z3).bind (fun y4 => (bif y4 then
 some (.ret v2)
 else f0 (v1, (IntKind.i64.wrap (v2 + 1))))))
 else some (.go v1))
@[simp] noncomputable def J_20 (v5 : Int) : Option Int :=
 some (-1)
theorem U_1i (a0 : List Int) : Le (joinK (loopF (fun f s => L_a a0 f s.1 s.2) (0, 0))
 (fun s => J_20 s)) (F_1u a0) := callL_le (tt := tt) (FT := FT) (SP := SP) (j := 64) rfl (by kernel_rfl)
theorem U_5 (a0 : Int) : Le ((F_4 a0).bind (fun y1 => some (!y1))) (F_w a0) := callL_le (tt := tt) (FT := FT) (SP := SP) (j := 65) rfl (by kernel_rfl)
@[simp] noncomputable def J_1m (v2 : Bool) : Option Bool :=
 some v2
theorem U_p (a0 : SNode) (a1 : SNode) : Le (joinK ((bif (a0.1 == a1.1) then
 (bif (a0.2.1.toList == a1.2.1.toList) then
 (bif (a0.2.2.1 == a1.2.2.1) then
 (bif (a0.2.2.2.1 == a1.2.2.2.1) then
 (bif (a0.2.2.2.2.1 == a1.2.2.2.2.1) then
 (bif (a0.2.2.2.2.2.1 == a1.2.2.2.2.2.1) then
 (F_1s a0.2.2.2.2.2.2.1 a1.2.2.2.2.2.2.1).bind (fun y1 => some (.go y1))
 else some (.go false))
 else some (.go false))
 else some (.go false))
 else some (.go false))
 else some (.go false))
 else some (.go false)))
 (fun s => J_1m s)) (F_17 a0 a1) := callL_le (tt := tt) (FT := FT) (SP := SP) (j := 66) rfl (by kernel_rfl)
noncomputable def L_8 (a0 : List Int) (a1 : List Int) (f0 : Yt19 → Option Yt12) (v1 : Bool) (v2 : Int) : Option Yt12 :=
 (bif (decide (v2 < (a0.length : Int))) then
 (ix a0 v2).bind (fun z3 => (ix a1 v2).bind (fun z4 => (bif (z3 != z4) then
 some (.ret false)
 else f0 (v1, (IntKind.i64.wrap (v2 + 1))))))
 else some (.go v1))
@[simp] noncomputable def J_1y (v5 : Bool) : Option Bool :=
 some true
theorem U_1g (a0 : List Int) (a1 : List Int) : Le ((bif ((a0.length : Int) != (a1.length : Int)) then
 some false
 else joinK (loopF (fun f s => L_8 a0 a1 f s.1 s.2) (false, 0))
 (fun s => J_1y s))) (F_1s a0 a1) := callL_le (tt := tt) (FT := FT) (SP := SP) (j := 67) rfl (by kernel_rfl)
noncomputable def L_0 (a0 : List SNode) (a2 : Int) (y3 : Int) (f0 : (Int × Int × Int) → Option (Ex Int (Int × Int))) (v4 : Int) (v5 : Int) (v6 : Int) : Option (Ex Int (Int × Int)) :=
 (bif (decide (v6 < y3)) then
 (F_i a0 v5 (IntKind.i64.wrap (a2 + 1))).bind (fun y7 => (bif (decide (y7 < 0)) then
 some (.ret (-1))
 else f0 (v4, y7, (IntKind.i64.wrap (v6 + 1)))))
 else some (.go (v4, v5)))
@[simp] noncomputable def J_4 (v8 : Int) (v9 : Int) : Option Int :=
 some v9
@[simp] noncomputable def J_d (a0 : List SNode) (a1 : Int) (a2 : Int) (v1 : Bool) : Option Int :=
 (bif v1 then
 some (-1)
 else joinK ((ix a0 a1).bind (fun z2 => (F_v z2.1).bind (fun y3 => loopF (fun f s => L_0 a0 a2 y3 f s.1 s.2.1 s.2.2) (0, (IntKind.i64.wrap (a1 + 1)), 0))))
 (fun s => J_4 s.1 s.2))
theorem U_0 (a0 : List SNode) (a1 : Int) (a2 : Int) : Le (joinK ((bif (decide (a1 ≥ (a0.length : Int))) then
 some (.go true)
 else some (.go (decide (a2 > 10)))))
 (fun s => J_d a0 a1 a2 s)) (F_i a0 a1 a2) := callL_le (tt := tt) (FT := FT) (SP := SP) (j := 68) rfl (by kernel_rfl)
@[simp] noncomputable def J_1h (v2 : Bool) : Option Int :=
 (bif v2 then
 some 1
 else some (-1))
@[simp] noncomputable def J_1g (a0 : Int) (v1 : Bool) : Option Int :=
 (bif v1 then
 some 2
 else joinK ((bif (a0 == 1) then
 some (.go true)
 else (bif (a0 == 2) then
 some (.go true)
 else (bif (a0 == 5) then
 some (.go true)
 else (bif (a0 == 6) then
 some (.go true)
 else some (.go (a0 == 7)))))))
 (fun s => J_1h s))
theorem U_3 (a0 : Int) : Le ((bif (a0 == 0) then
 some 0
 else joinK ((bif (a0 == 3) then
 some (.go true)
 else some (.go (a0 == 4))))
 (fun s => J_1g a0 s))) (F_v a0) := callL_le (tt := tt) (FT := FT) (SP := SP) (j := 69) rfl (by kernel_rfl)
noncomputable def L_l (a0 : List SStep) (a1 : List SStep) (f0 : Yt19 → Option Yt12) (v1 : Bool) (v2 : Int) : Option Yt12 :=
 (bif (decide (v2 < (a0.length : Int))) then
 (ix a0 v2).bind (fun z3 => (ix a1 v2).bind (fun z4 => (bif (eqP2 .neq z3 z4) then
 some (.ret false)
 else f0 (v1, (IntKind.i64.wrap (v2 + 1))))))
 else some (.go v1))
@[simp] noncomputable def J_1x (v5 : Bool) : Option Bool :=
 some true
theorem U_1f (a0 : List SStep) (a1 : List SStep) : Le ((bif ((a0.length : Int) != (a1.length : Int)) then
 some false
 else joinK (loopF (fun f s => L_l a0 a1 f s.1 s.2) (false, 0))
 (fun s => J_1x s))) (F_1r a0 a1) := callL_le (tt := tt) (FT := FT) (SP := SP) (j := 70) rfl (by kernel_rfl)
noncomputable def L_5 (a0 : List SNode) (f0 : (Yt9 × Int) → Option (Ex ByteArray Yt9)) (v2 : List ByteArray) (v3 : Int) : Option (Ex ByteArray Yt9) :=
 (bif (decide (v3 < (a0.length : Int))) then
 (ix a0 v3).bind (fun z4 => (F_x (z4.1, (z4.2.1, (z4.2.2.1, (z4.2.2.2.1, (z4.2.2.2.2.1, (z4.2.2.2.2.2.1, (z4.2.2.2.2.2.2.1, ())))))))).bind (fun y5 => (apx v2 ([y5])).bind (fun z6 => f0 (z6, (IntKind.i64.wrap (v3 + 1))))))
 else some (.go v2))
@[simp] noncomputable def J_t (v7 : List ByteArray) : Option ByteArray :=
 (F_a v7).bind (fun y8 => some y8.1)
theorem U_c (a0 : List SNode) : Le ((F_8 a0).bind (fun y1 => (bif (!y1) then
 some ByteArray.empty
 else joinK (loopF (fun f s => L_5 a0 f s.1 s.2) ([], 0))
 (fun s => J_t s)))) (F_h a0) := callL_le (tt := tt) (FT := FT) (SP := SP) (j := 71) rfl (by kernel_rfl)
noncomputable def L_e (a0 : SNode) (f0 : (Yt9 × Int) → Option (Ex ByteArray Yt9)) (v13 : List ByteArray) (v14 : Int) : Option (Ex ByteArray Yt9) :=
 (bif (decide (v14 < (a0.2.2.2.2.2.2.1.length : Int))) then
 (ix a0.2.2.2.2.2.2.1 v14).bind (fun z15 => (F_2 z15).bind (fun y16 => (apx v13 ([y16])).bind (fun z17 => f0 (z17, (IntKind.i64.wrap (v14 + 1))))))
 else some (.go v13))
@[simp] noncomputable def J_9 (v25 : List ByteArray) : Option ByteArray :=
 (F_a v25).bind (fun y26 => some y26.1)
theorem U_6 (a0 : SNode) : Le ((F_7 (a0.1, (a0.2.1, (a0.2.2.1, (a0.2.2.2.1, (a0.2.2.2.2.1, (a0.2.2.2.2.2.1, (a0.2.2.2.2.2.2.1, ())))))))).bind (fun y1 => (bif (!y1) then
 some ByteArray.empty
 else (F_15).bind (fun y2 => (ix y2 a0.1).bind (fun z3 => joinK ((bif (a0.1 == 0) then
 (apx ([z3]) ([a0.2.1])).bind (fun z4 => some (.go z4))
 else (bif (a0.1 == 1) then
 (F_2 a0.2.2.1).bind (fun y5 => (F_16).bind (fun y6 => (ix y6 a0.2.2.2.1).bind (fun z7 => (apx ([z3]) ([y5, z7])).bind (fun z8 => (bif (a0.2.2.2.1 != 3) then
 (F_f (a0.1, (a0.2.1, (a0.2.2.1, (a0.2.2.2.1, (a0.2.2.2.2.1, (a0.2.2.2.2.2.1, (a0.2.2.2.2.2.2.1, ())))))))).bind (fun y9 => (apx z8 ([y9])).bind (fun z10 => some (.go z10)))
 else some (.go z8))))))
 else (bif (a0.1 == 2) then
 (F_2 (a0.2.2.2.2.2.2.1.length : Int)).bind (fun y11 => (apx ([z3]) ([y11])).bind (fun z12 => loopF (fun f s => L_e a0 f s.1 s.2) (z12, 0)))
 else (bif (a0.1 == 3) then
 (F_2 a0.2.2.1).bind (fun y18 => (F_2 a0.2.2.2.2.1).bind (fun y19 => (apx ([z3]) ([y18, y19])).bind (fun z20 => some (.go z20))))
 else (bif (a0.1 == 5) then
 (F_2 a0.2.2.1).bind (fun y21 => (apx ([z3]) ([y21])).bind (fun z22 => some (.go z22)))
 else (bif (a0.1 == 6) then
 (F_f (a0.1, (a0.2.1, (a0.2.2.1, (a0.2.2.2.1, (a0.2.2.2.2.1, (a0.2.2.2.2.2.1, (a0.2.2.2.2.2.2.1, ())))))))).bind (fun y23 => (apx ([z3]) ([y23])).bind (fun z24 => some (.go z24)))
 else some (.go [z3]))))))))
 (fun s => J_9 s)))))) (F_x a0) := callL_le (tt := tt) (FT := FT) (SP := SP) (j := 72) rfl (by kernel_rfl)
theorem U_l : Le (some ([(⟨#[115, 99, 97, 110]⟩ : ByteArray), (⟨#[102, 105, 108, 116, 101, 114]⟩ : ByteArray), (⟨#[107, 101, 101, 112]⟩ : ByteArray), (⟨#[106, 111, 105, 110]⟩ : ByteArray), (⟨#[98, 111, 116, 104]⟩ : ByteArray), (⟨#[115, 111, 114, 116]⟩ : ByteArray), (⟨#[108, 105, 109, 105, 116]⟩ : ByteArray), (⟨#[111, 110, 99, 101]⟩ : ByteArray)])) (F_15) := callL_le (tt := tt) (FT := FT) (SP := SP) (j := 73) rfl (by kernel_rfl)
theorem U_n : Le (some ([(⟨#[61]⟩ : ByteArray), (⟨#[60]⟩ : ByteArray), (⟨#[62]⟩ : ByteArray), (⟨#[110, 111, 110, 101]⟩ : ByteArray)])) (F_16) := callL_le (tt := tt) (FT := FT) (SP := SP) (j := 74) rfl (by kernel_rfl)
theorem U_7 (a0 : SNode) : Le ((bif a0.2.2.2.2.2.1 then
 (F_2 a0.2.2.2.2.1).bind (fun y1 => (addx (⟨#[36]⟩ : ByteArray) y1).bind (fun z2 => some z2))
 else (F_2 a0.2.2.2.2.1).bind (fun y3 => some y3))) (F_f a0) := callL_le (tt := tt) (FT := FT) (SP := SP) (j := 75) rfl (by kernel_rfl)
noncomputable def L_j (a0 : List SOp) (a1 : List SOp) (f0 : Yt19 → Option Yt12) (v1 : Bool) (v2 : Int) : Option Yt12 :=
 (bif (decide (v2 < (a0.length : Int))) then
 (ix a0 v2).bind (fun z3 => (ix a1 v2).bind (fun z4 => (F_1c z3 z4).bind (fun y5 => (bif (!y5) then
 some (.ret false)
 else f0 (v1, (IntKind.i64.wrap (v2 + 1)))))))
 else some (.go v1))
@[simp] noncomputable def J_1p (v6 : Bool) : Option Bool :=
 some true
theorem U_x (a0 : List SOp) (a1 : List SOp) : Le ((bif ((a0.length : Int) != (a1.length : Int)) then
 some false
 else joinK (loopF (fun f s => L_j a0 a1 f s.1 s.2) (false, 0))
 (fun s => J_1p s))) (F_1d a0 a1) := callL_le (tt := tt) (FT := FT) (SP := SP) (j := 76) rfl (by kernel_rfl)
theorem U_w (a0 : SOp) (a1 : SOp) : Le ((bif (a0.1 != a1.1) then
 some false
 else (F_k a0.2.1 a1.2.1).bind (fun y1 => (bif (!y1) then
 some false
 else (F_k a0.2.2.1 a1.2.2.1).bind (fun y2 => (bif (!y2) then
 some false
 else (F_1f a0.2.2.2.1 a1.2.2.2.1).bind (fun y3 => (bif (!y3) then
 some false
 else some true)))))))) (F_1c a0 a1) := callL_le (tt := tt) (FT := FT) (SP := SP) (j := 77) rfl (by kernel_rfl)
noncomputable def L_i (a0 : List SNode) (a1 : List SNode) (f0 : Yt19 → Option Yt12) (v1 : Bool) (v2 : Int) : Option Yt12 :=
 (bif (decide (v2 < (a0.length : Int))) then
 (ix a0 v2).bind (fun z3 => (ix a1 v2).bind (fun z4 => (F_1b z3 z4).bind (fun y5 => (bif (!y5) then
 some (.ret false)
 else f0 (v1, (IntKind.i64.wrap (v2 + 1)))))))
 else some (.go v1))
@[simp] noncomputable def J_1o (v6 : Bool) : Option Bool :=
 some true
theorem U_v (a0 : List SNode) (a1 : List SNode) : Le ((bif ((a0.length : Int) != (a1.length : Int)) then
 some false
 else joinK (loopF (fun f s => L_i a0 a1 f s.1 s.2) (false, 0))
 (fun s => J_1o s))) (F_k a0 a1) := callL_le (tt := tt) (FT := FT) (SP := SP) (j := 78) rfl (by kernel_rfl)
theorem U_u (a0 : SNode) (a1 : SNode) : Le ((bif (a0.1 != a1.1) then
 some false
 else (bif (!(a0.2.1.toList == a1.2.1.toList)) then
 some false
 else (bif (a0.2.2.1 != a1.2.2.1) then
 some false
 else (bif (a0.2.2.2.1 != a1.2.2.2.1) then
 some false
 else (bif (a0.2.2.2.2.1 != a1.2.2.2.2.1) then
 some false
 else (bif (a0.2.2.2.2.2.1 != a1.2.2.2.2.2.1) then
 some false
 else (F_1a a0.2.2.2.2.2.2.1 a1.2.2.2.2.2.2.1).bind (fun y1 => (bif (!y1) then
 some false
 else some true))))))))) (F_1b a0 a1) := callL_le (tt := tt) (FT := FT) (SP := SP) (j := 79) rfl (by kernel_rfl)
noncomputable def L_h (a0 : List Int) (a1 : List Int) (f0 : Yt19 → Option Yt12) (v1 : Bool) (v2 : Int) : Option Yt12 :=
 (bif (decide (v2 < (a0.length : Int))) then
 (ix a0 v2).bind (fun z3 => (ix a1 v2).bind (fun z4 => (bif (z3 != z4) then
 some (.ret false)
 else f0 (v1, (IntKind.i64.wrap (v2 + 1))))))
 else some (.go v1))
@[simp] noncomputable def J_1n (v5 : Bool) : Option Bool :=
 some true
theorem U_t (a0 : List Int) (a1 : List Int) : Le ((bif ((a0.length : Int) != (a1.length : Int)) then
 some false
 else joinK (loopF (fun f s => L_h a0 a1 f s.1 s.2) (false, 0))
 (fun s => J_1n s))) (F_1a a0 a1) := callL_le (tt := tt) (FT := FT) (SP := SP) (j := 80) rfl (by kernel_rfl)
noncomputable def L_k (a0 : List SStep) (a1 : List SStep) (f0 : Yt19 → Option Yt12) (v1 : Bool) (v2 : Int) : Option Yt12 :=
 (bif (decide (v2 < (a0.length : Int))) then
 (ix a0 v2).bind (fun z3 => (ix a1 v2).bind (fun z4 => (F_1e z3 z4).bind (fun y5 => (bif (!y5) then
 some (.ret false)
 else f0 (v1, (IntKind.i64.wrap (v2 + 1)))))))
 else some (.go v1))
@[simp] noncomputable def J_1q (v6 : Bool) : Option Bool :=
 some true
theorem U_z (a0 : List SStep) (a1 : List SStep) : Le ((bif ((a0.length : Int) != (a1.length : Int)) then
 some false
 else joinK (loopF (fun f s => L_k a0 a1 f s.1 s.2) (false, 0))
 (fun s => J_1q s))) (F_1f a0 a1) := callL_le (tt := tt) (FT := FT) (SP := SP) (j := 81) rfl (by kernel_rfl)
theorem U_y (a0 : SStep) (a1 : SStep) : Le ((bif (a0.1 != a1.1) then
 some false
 else (bif (a0.2.1 != a1.2.1) then
 some false
 else some true))) (F_1e a0 a1) := callL_le (tt := tt) (FT := FT) (SP := SP) (j := 82) rfl (by kernel_rfl)
end Go.Proofs.YtnljlpckjkafgaaGreatDoorX
