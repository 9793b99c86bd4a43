/- Printed: for each function that the statement reaches, a plain function, and that it is what the program's function answers. -/
import Derived.Test.YtlebkomgiibknaaDoorProg
import Derived.Test.YtlebkomgiibknaaDoorTrstD
set_option linter.all false
namespace Go.Proofs.YtlebkomgiibknaaDoorX
open Go Go.Proofs Go.Proofs.YtlebkomgiibknaaDoorT
set_option maxRecDepth 100000
set_option linter.all false
abbrev STable := ByteArray × Int × Unit
abbrev Yv0 : Ty := .int .i64
abbrev Yv1 : Ty := .pr .str (.pr Yv0 .un)
abbrev Yv2 : Ty := .sl 41 (.sl 3 Yv0)
abbrev Yt4 : Type := Ex Bool Bool
abbrev Yt5 : Type := Ex ByteArray ByteArray
abbrev Yt6 : Type := Bool × Int
abbrev Yt7 : Type := List Int
abbrev Yt3 : Type := List Yt7
abbrev Yt8 : Type := ByteArray × Int
abbrev Yl0 : LT := ⟨false, false, .bool⟩
abbrev Yl1 : LT := ⟨false, false, Yv0⟩
abbrev Yl2 : LT := ⟨false, false, .str⟩
def ttL : List (Nat × Ty) := [(3, Yv0),
 (4, .bool),
 (5, (.int .u8)),
 (9, .str),
 (22, (.sl 35 Yv1)),
 (23, (.sl 37 Yv2)),
 (27, (.sl 39 Yv1)),
 (35, Yv1),
 (37, Yv2),
 (39, Yv1),
 (41, (.sl 3 Yv0)),
 (52, (.sl 9 .str)),
 (58, (.sl 5 (.int .u8)))]
def tt (T : TypeId) : Option Ty := lkT ttL T
theorem tt_ok : TTok Tryd.prog tt := lkT_ok (by kernel_rfl)
noncomputable def i_laws_FnExactStoreText : Inst := { f := 3, fn := Tryd.f3, n := 45, pds := [.rd (.sl 35 Yv1), .rd (.sl 37 Yv2)], caps := [], res := [Yl0], h := { al := [29, 30, 35, 40], ca := [(12, 1), (17, 3), (21, 6), (23, 8), (24, 11), (26, 6), (28, 8), (31, 21), (37, 6), (38, 35), (42, 8), (43, 37)], code := .nil } }
noncomputable def i_laws_szTableS : Inst := { f := 4, fn := Tryd.f4, n := 27, pds := [.rd (.sl 35 Yv1), .rd Yv0], caps := [], res := [Yl1], h := { ca := [(23, 2)], code := (.two .nil (.two .nil (.two .nil (.join ⟨[1, 4], [(1, .v Yl1), (4, .v Yl1)]⟩ (.two .nil (.loop ⟨[1, 4, 5], [(1, .v Yl1), (4, .v Yl1), (5, .v Yl1)]⟩ .nil)) .nil)))) } }
noncomputable def i_laws_szTable : Inst := { f := 12, fn := Tryd.f12, n := 13, pds := [.rd Yv1, .rd Yv0], caps := [], res := [Yl1], h := { code := .nil } }
noncomputable def i_laws_szIntSSS : Inst := { f := 5, fn := Tryd.f5, n := 27, pds := [.rd (.sl 37 Yv2), .rd Yv0], caps := [], res := [Yl1], h := { ca := [(23, 4)], code := (.two .nil (.two .nil (.two .nil (.join ⟨[1, 4], [(1, .v Yl1), (4, .v Yl1)]⟩ (.two .nil (.loop ⟨[1, 4, 5], [(1, .v Yl1), (4, .v Yl1), (5, .v Yl1)]⟩ .nil)) .nil)))) } }
noncomputable def i_laws_szIntSS : Inst := { f := 13, fn := Tryd.f13, n := 27, pds := [.rd Yv2, .rd Yv0], caps := [], res := [Yl1], h := { ca := [(23, 5)], code := (.two .nil (.two .nil (.two .nil (.join ⟨[1, 4], [(1, .v Yl1), (4, .v Yl1)]⟩ (.two .nil (.loop ⟨[1, 4, 5], [(1, .v Yl1), (4, .v Yl1), (5, .v Yl1)]⟩ .nil)) .nil)))) } }
noncomputable def i_laws_szIntS : Inst := { f := 22, fn := Tryd.f22, n := 12, pds := [.rd (.sl 3 Yv0), .rd Yv0], caps := [], res := [Yl1], h := { code := .nil } }
noncomputable def i_laws_toTableS : Inst := { f := 7, fn := Tryd.f7, n := 23, pds := [.rd (.sl 35 Yv1)], caps := [], res := [⟨true, true, (.sl 39 Yv1)⟩], h := { al := [14], el := [21], ca := [(20, 7)], code := (.two .nil (.two .nil (.join ⟨[3], [(3, .v ⟨true, true, (.sl 39 Yv1)⟩)]⟩ (.two .nil (.loop ⟨[3, 4], [(3, .v ⟨true, true, (.sl 39 Yv1)⟩), (4, .v Yl1)]⟩ .nil)) .nil))) } }
noncomputable def i_laws_toTable : Inst := { f := 16, fn := Tryd.f16, n := 11, pds := [.rd Yv1], caps := [], res := [⟨false, false, Yv1⟩], h := { code := .nil } }
noncomputable def i_laws_toIntSSS : Inst := { f := 8, fn := Tryd.f8, n := 23, pds := [.rd (.sl 37 Yv2)], caps := [], res := [⟨true, true, (.sl 37 Yv2)⟩], h := { al := [14], el := [21], ca := [(20, 9)], code := (.two .nil (.two .nil (.join ⟨[3], [(3, .v ⟨true, true, (.sl 37 Yv2)⟩)]⟩ (.two .nil (.loop ⟨[3, 4], [(3, .v ⟨true, true, (.sl 37 Yv2)⟩), (4, .v Yl1)]⟩ .nil)) .nil))) } }
noncomputable def i_laws_toIntSS : Inst := { f := 17, fn := Tryd.f17, n := 23, pds := [.rd Yv2], caps := [], res := [⟨true, true, Yv2⟩], h := { al := [14], el := [21], ca := [(20, 10)], code := (.two .nil (.two .nil (.join ⟨[3], [(3, .v ⟨true, true, Yv2⟩)]⟩ (.two .nil (.loop ⟨[3, 4], [(3, .v ⟨true, true, Yv2⟩), (4, .v Yl1)]⟩ .nil)) .nil))) } }
noncomputable def i_laws_toIntS : Inst := { f := 26, fn := Tryd.f26, n := 22, pds := [.rd (.sl 3 Yv0)], caps := [], res := [⟨true, true, (.sl 3 Yv0)⟩], h := { al := [14], el := [20], code := (.two .nil (.two .nil (.join ⟨[3], [(3, .v ⟨true, true, (.sl 3 Yv0)⟩)]⟩ (.two .nil (.loop ⟨[3, 4], [(3, .v ⟨true, true, (.sl 3 Yv0)⟩), (4, .v Yl1)]⟩ .nil)) .nil))) } }
noncomputable def i_spec_StoreText : Inst := { f := 6, fn := Tryd.f6, n := 49, pds := [.rd (.sl 39 Yv1), .rd (.sl 37 Yv2)], caps := [], res := [Yl2], h := { ca := [(10, 12), (44, 19)], code := (.two .nil (.two .nil (.two .nil (.join ⟨[5], [(5, .v Yl2)]⟩ (.two .nil (.loop ⟨[5, 6], [(5, .v Yl2), (6, .v Yl1)]⟩ (.two .nil (.join ⟨[5], [(5, .v Yl2)]⟩ (.two .nil (.join ⟨[5], [(5, .v Yl2)]⟩ (.two .nil (.loop ⟨[5, 7], [(5, .v Yl2), (7, .v Yl1)]⟩ .nil)) .nil)) .nil)))) .nil)))) } }
noncomputable def i_spec_StoreOk : Inst := { f := 14, fn := Tryd.f14, n := 77, pds := [.rd (.sl 39 Yv1), .rd (.sl 37 Yv2)], caps := [], res := [Yl0], h := { ca := [(9, 13), (75, 17)], code := (.two .nil (.two (.join ⟨[], [(17, .v Yl0)]⟩ .nil .nil) (.join ⟨[4], [(4, .v Yl0)]⟩ (.two .nil (.loop ⟨[4, 5], [(4, .v Yl0), (5, .v Yl1)]⟩ (.two .nil (.join ⟨[4], [(4, .v Yl0)]⟩ (.two .nil (.two .nil (.loop ⟨[4, 6], [(4, .v Yl0), (6, .v Yl1)]⟩ (.two .nil (.join ⟨[4], [(4, .v Yl0)]⟩ (.two .nil (.two .nil (.loop ⟨[4, 7], [(4, .v Yl0), (7, .v Yl1)]⟩ .nil))) .nil))))) .nil)))) .nil))) } }
noncomputable def i_spec_SchemaOk : Inst := { f := 23, fn := Tryd.f23, n := 48, pds := [.rd (.sl 39 Yv1)], caps := [], res := [Yl0], h := { ca := [(18, 14), (26, 15), (44, 16)], code := (.two .nil (.two .nil (.join ⟨[2], [(2, .v Yl0)]⟩ (.two .nil (.loop ⟨[2, 3], [(2, .v Yl0), (3, .v Yl1)]⟩ (.two .nil (.two (.join ⟨[], [(47, .v Yl0)]⟩ .nil .nil) .nil)))) .nil))) } }
noncomputable def i_spec_WordOk : Inst := { f := 34, fn := Tryd.f34, n := 41, pds := [.rd .str], caps := [], res := [Yl0], h := { ca := [(6, 15)], code := (.two .nil (.two (.join ⟨[], [(12, .v Yl0)]⟩ .nil .nil) (.join ⟨[2], [(2, .v Yl0)]⟩ (.two .nil (.loop ⟨[2, 3], [(2, .v Yl0), (3, .v Yl1)]⟩ (.two .nil (.two (.join ⟨[], [(40, .v Yl0)]⟩ .nil .nil) .nil)))) .nil))) } }
noncomputable def i_spec_l01In : Inst := { f := 35, fn := Tryd.f35, n := 15, pds := [.rd Yv0, .rd Yv0, .rd Yv0], caps := [], res := [Yl0], h := { code := (.two .nil (.join ⟨[6], [(6, .v Yl0)]⟩ .nil .nil)) } }
noncomputable def i_spec_l01Less : Inst := { f := 36, fn := Tryd.f36, n := 37, pds := [.rd .str, .rd .str], caps := [], res := [Yl0], h := { code := (.two .nil (.join ⟨[4], [(4, .v Yl0)]⟩ (.two .nil (.loop ⟨[4, 5], [(4, .v Yl0), (5, .v Yl1)]⟩ (.two (.join ⟨[], [(15, .v Yl0)]⟩ .nil .nil) .nil))) .nil)) } }
noncomputable def i_spec_l04Value : Inst := { f := 24, fn := Tryd.f24, n := 9, pds := [.rd Yv0], caps := [], res := [Yl0], h := { ca := [(4, 18)], code := (.two .nil (.join ⟨[2], [(2, .v Yl0)]⟩ .nil .nil)) } }
noncomputable def i_spec_l01Number : Inst := { f := 37, fn := Tryd.f37, n := 5, pds := [.rd Yv0], caps := [], res := [Yl0], h := { ca := [(4, 15)], code := .nil } }
noncomputable def i_spec_RowText : Inst := { f := 15, fn := Tryd.f15, n := 33, pds := [.rd (.sl 3 Yv0)], caps := [], res := [Yl2], h := { ca := [(30, 20)], code := (.two .nil (.two .nil (.two .nil (.join ⟨[3], [(3, .v Yl2)]⟩ (.two .nil (.loop ⟨[3, 4], [(3, .v Yl2), (4, .v Yl1)]⟩ (.two .nil (.join ⟨[3], [(3, .v Yl2)]⟩ (.join ⟨[3], [(3, .v Yl2)]⟩ .nil .nil) .nil)))) .nil)))) } }
noncomputable def i_spec_l01Num : Inst := { f := 25, fn := Tryd.f25, n := 31, pds := [.rd Yv0], caps := [], res := [Yl2], h := { code := (.two .nil (.two .nil (.two .nil (.two .nil (.join ⟨[0, 3], [(3, .v Yl2)]⟩ (.loop ⟨[0, 3], [(0, .v Yl1), (3, .v Yl2)]⟩ (.two .nil (.two .nil (.join ⟨[5], [(5, .v Yl1)]⟩ .nil .nil)))) .nil))))) } }
noncomputable def i_impl_StoreText : Inst := { f := 9, fn := Tryd.f9, n := 45, pds := [.rd (.sl 39 Yv1), .rd (.sl 37 Yv2)], caps := [], res := [Yl2], h := { ca := [(12, 22), (37, 31)], code := (.two .nil (.two .nil (.two .nil (.join ⟨[5], [(5, .v Yl2)]⟩ (.two .nil (.loop ⟨[5, 16], [(5, .v Yl2), (16, .v Yl1)]⟩ (.two .nil (.two .nil (.join ⟨[5], [(5, .v Yl2)]⟩ (.two .nil (.two .nil (.join ⟨[5], [(5, .v Yl2)]⟩ (.two .nil (.loop ⟨[5, 31], [(5, .v Yl2), (31, .v Yl1)]⟩ .nil)) .nil))) .nil))))) .nil)))) } }
noncomputable def i_impl_StoreOk : Inst := { f := 18, fn := Tryd.f18, n := 49, pds := [.rd (.sl 39 Yv1), .rd (.sl 37 Yv2)], caps := [], res := [Yl0], h := { ca := [(10, 23), (45, 26)], code := (.two .nil (.two (.join ⟨[], [(18, .v Yl0)]⟩ .nil .nil) (.join ⟨[4], [(4, .v Yl0)]⟩ (.two .nil (.loop ⟨[4, 21], [(4, .v Yl0), (21, .v Yl1)]⟩ (.two .nil (.two .nil (.join ⟨[4], [(4, .v Yl0)]⟩ (.two .nil (.two .nil (.two .nil (.loop ⟨[4, 31], [(4, .v Yl0), (31, .v Yl1)]⟩ (.two .nil (.two .nil (.two (.two .nil (.join ⟨[], [(46, .v Yl0)]⟩ .nil .nil)) .nil))))))) .nil))))) .nil))) } }
noncomputable def i_impl_SchemaOk : Inst := { f := 27, fn := Tryd.f27, n := 41, pds := [.rd (.sl 39 Yv1)], caps := [], res := [Yl0], h := { ca := [(14, 24), (19, 25)], code := (.two .nil (.join ⟨[2], [(2, .v Yl0)]⟩ (.two .nil (.loop ⟨[2, 7], [(2, .v Yl0), (7, .v Yl1)]⟩ (.two .nil (.two .nil (.two (.two .nil (.join ⟨[], [(36, .v Yl0)]⟩ .nil .nil)) .nil))))) .nil)) } }
noncomputable def i_impl_WordOk : Inst := { f := 38, fn := Tryd.f38, n := 38, pds := [.rd .str], caps := [], res := [Yl0], h := { ca := [(37, 25)], code := (.two .nil (.join ⟨[2], [(2, .v Yl0)]⟩ (.two .nil (.loop ⟨[2, 8], [(2, .v Yl0), (8, .v Yl1)]⟩ (.two .nil (.two .nil (.two (.two .nil (.two .nil (.join ⟨[], [(5, .v Yl0)]⟩ .nil (.join ⟨[], [(33, .v Yl0)]⟩ .nil .nil)))) .nil))))) .nil)) } }
noncomputable def i_impl_in : Inst := { f := 39, fn := Tryd.f39, n := 15, pds := [.rd Yv0, .rd Yv0, .rd Yv0], caps := [], res := [Yl0], h := { code := (.two .nil (.join ⟨[6], [(6, .v Yl0)]⟩ .nil .nil)) } }
noncomputable def i_slices_ContainsFunc_Lint_impl_StoreOk_1 : Inst := { f := 28, fn := Tryd.f28, n := 9, pds := [.rd (.sl 3 Yv0), .fn 29 []], caps := [], res := [Yl0], h := { ca := [(7, 27)], code := .nil } }
noncomputable def i_slices_IndexFunc_Lint_impl_StoreOk_1 : Inst := { f := 40, fn := Tryd.f40, n := 19, pds := [.rd (.sl 3 Yv0), .fn 29 []], caps := [], res := [Yl1], h := { ca := [(16, 28)], code := (.two .nil (.join ⟨[4], [(4, .v Yl1)]⟩ (.two .nil (.loop ⟨[4, 8], [(4, .v Yl1), (8, .v Yl1)]⟩ .nil)) .nil)) } }
noncomputable def i_impl_StoreOk_1 : Inst := { f := 29, fn := Tryd.f29, n := 6, pds := [.rd Yv0], caps := [], res := [Yl0], h := { ca := [(4, 29)], code := .nil } }
noncomputable def i_impl_isValue : Inst := { f := 30, fn := Tryd.f30, n := 9, pds := [.rd Yv0], caps := [], res := [Yl0], h := { ca := [(4, 30)], code := (.two .nil (.join ⟨[2], [(2, .v Yl0)]⟩ .nil .nil)) } }
noncomputable def i_impl_isNum : Inst := { f := 41, fn := Tryd.f41, n := 5, pds := [.rd Yv0], caps := [], res := [Yl0], h := { ca := [(4, 25)], code := .nil } }
noncomputable def i_impl_RowText : Inst := { f := 19, fn := Tryd.f19, n := 28, pds := [.rd (.sl 3 Yv0)], caps := [], res := [Yl2], h := { al := [26], ca := [(22, 32), (27, 34)], code := (.two .nil (.two .nil (.two .nil (.join ⟨[3], [(3, .v ⟨true, true, (.sl 9 .str)⟩)]⟩ (.two .nil (.loop ⟨[3, 11], [(3, .v ⟨true, true, (.sl 9 .str)⟩), (11, .v Yl1)]⟩ (.two .nil (.two .nil (.join ⟨[3], [(3, .v ⟨true, true, (.sl 9 .str)⟩)]⟩ .nil .nil))))) .nil)))) } }
noncomputable def i_impl_number : Inst := { f := 31, fn := Tryd.f31, n := 5, pds := [.rd Yv0], caps := [], res := [Yl2], h := { ca := [(4, 33)], code := .nil } }
noncomputable def i_strconv_Itoa : Inst := { f := 42, fn := Tryd.f42, n := 5, pds := [.rd Yv0], caps := [], res := [Yl2], h := {} }
noncomputable def i_strings_Join : Inst := { f := 32, fn := Tryd.f32, n := 75, pds := [.mu true true 9 .str, .rd .str], caps := [], res := [Yl2], h := {} }
noncomputable def i_laws_eqTableS : Inst := { f := 10, fn := Tryd.f10, n := 27, pds := [.rd (.sl 39 Yv1), .rd (.sl 39 Yv1)], caps := [], res := [Yl0], h := { ca := [(25, 36)], code := (.two .nil (.two .nil (.join ⟨[4], [(4, .v Yl0)]⟩ (.two .nil (.loop ⟨[4, 5], [(4, .v Yl0), (5, .v Yl1)]⟩ .nil)) .nil))) } }
noncomputable def i_laws_eqTable : Inst := { f := 20, fn := Tryd.f20, n := 15, pds := [.rd Yv1, .rd Yv1], caps := [], res := [Yl0], h := { code := .nil } }
noncomputable def i_laws_eqIntSSS : Inst := { f := 11, fn := Tryd.f11, n := 27, pds := [.rd (.sl 37 Yv2), .rd (.sl 37 Yv2)], caps := [], res := [Yl0], h := { ca := [(25, 38)], code := (.two .nil (.two .nil (.join ⟨[4], [(4, .v Yl0)]⟩ (.two .nil (.loop ⟨[4, 5], [(4, .v Yl0), (5, .v Yl1)]⟩ .nil)) .nil))) } }
noncomputable def i_laws_eqIntSS : Inst := { f := 21, fn := Tryd.f21, n := 27, pds := [.rd Yv2, .rd Yv2], caps := [], res := [Yl0], h := { ca := [(25, 39)], code := (.two .nil (.two .nil (.join ⟨[4], [(4, .v Yl0)]⟩ (.two .nil (.loop ⟨[4, 5], [(4, .v Yl0), (5, .v Yl1)]⟩ .nil)) .nil))) } }
noncomputable def i_laws_eqIntS : Inst := { f := 33, fn := Tryd.f33, n := 26, pds := [.rd (.sl 3 Yv0), .rd (.sl 3 Yv0)], caps := [], res := [Yl0], h := { code := (.two .nil (.two .nil (.join ⟨[4], [(4, .v Yl0)]⟩ (.two .nil (.loop ⟨[4, 5], [(4, .v Yl0), (5, .v Yl1)]⟩ .nil)) .nil))) } }
noncomputable def FTL : List Inst := [i_laws_FnExactStoreText, i_laws_szTableS, i_laws_szTable, i_laws_szIntSSS, i_laws_szIntSS, i_laws_szIntS, i_laws_toTableS, i_laws_toTable, i_laws_toIntSSS, i_laws_toIntSS, i_laws_toIntS, i_spec_StoreText, i_spec_StoreOk, i_spec_SchemaOk, i_spec_WordOk, i_spec_l01In, i_spec_l01Less, i_spec_l04Value, i_spec_l01Number, i_spec_RowText, i_spec_l01Num, i_impl_StoreText, i_impl_StoreOk, i_impl_SchemaOk, i_impl_WordOk, i_impl_in, i_slices_ContainsFunc_Lint_impl_StoreOk_1, i_slices_IndexFunc_Lint_impl_StoreOk_1, i_impl_StoreOk_1, i_impl_isValue, i_impl_isNum, i_impl_RowText, i_impl_number, i_strconv_Itoa, i_strings_Join, i_laws_eqTableS, i_laws_eqTable, i_laws_eqIntSSS, i_laws_eqIntSS, i_laws_eqIntS]
noncomputable def FT (j : Nat) : Inst := FTL.getD j i_laws_FnExactStoreText
noncomputable def SP (j : Nat) : Option (InVals (FT j) → Option (Tup (outTys (FT j)))) := if h33 : j = 33 then some (h33 ▸ (show InVals (FT 33) → Option (Tup (outTys (FT 33))) from fun v => itoaF v.1.1)) else if h34 : j = 34 then some (h34 ▸ (show InVals (FT 34) → Option (Tup (outTys (FT 34))) from fun v => joinF v.1.1 v.1.2.1)) else none
def lays156_ren : Go.Shelf.Ren := ⟨fun | 156 => 32 | 165 => 43 | 166 => 44 | 169 => 45 | 240 => 47 | 241 => 48 | 276 => 50 | 277 => 51 | n => n, fun | 0 => 0 | 3 => 3 | 4 => 4 | 5 => 5 | 9 => 9 | 20 => 20 | 31 => 52 | 37 => 58 | 70 => 60 | 72 => 62 | 75 => 65 | 76 => 66 | 80 => 68 | 127 => 69 | 164 => 71 | n => n, fun n => n⟩
theorem lays156 : Go.Proofs.Lays.n156 Tryd.prog lays156_ren := {
 mixed := by kernel_rfl,
 f156 := Tryd.func32.trans (congrArg some (by kernel_rfl)),
 f165 := Tryd.func43.trans (congrArg some (by kernel_rfl)),
 f166 := Tryd.func44.trans (congrArg some (by kernel_rfl)),
 f169 := Tryd.func45.trans (congrArg some (by kernel_rfl)),
 f240 := Tryd.func47.trans (congrArg some (by kernel_rfl)),
 f241 := Tryd.func48.trans (congrArg some (by kernel_rfl)),
 f276 := Tryd.func50.trans (congrArg some (by kernel_rfl)),
 f277 := Tryd.func51.trans (congrArg some (by kernel_rfl)),
 t0 := Tryd.underlying0,
 a0 := Tryd.isAgg0,
 z0 := Tryd.sizeOf0,
 v0 := Tryd.zeroValue0,
 t3 := Tryd.underlying3,
 a3 := Tryd.isAgg3,
 z3 := Tryd.sizeOf3,
 v3 := Tryd.zeroValue3,
 t4 := Tryd.underlying4,
 a4 := Tryd.isAgg4,
 z4 := Tryd.sizeOf4,
 v4 := Tryd.zeroValue4,
 t9 := Tryd.underlying9,
 a9 := Tryd.isAgg9,
 z9 := Tryd.sizeOf9,
 v9 := Tryd.zeroValue9,
 t20 := Tryd.underlying20,
 a20 := Tryd.isAgg20,
 z20 := Tryd.sizeOf20,
 v20 := Tryd.zeroValue20,
 t31 := Tryd.underlying52,
 a31 := Tryd.isAgg52,
 z31 := Tryd.sizeOf52,
 v31 := Tryd.zeroValue52,
 t37 := Tryd.underlying58,
 a37 := Tryd.isAgg58,
 z37 := Tryd.sizeOf58,
 v37 := Tryd.zeroValue58,
 t70 := Tryd.underlying60,
 a70 := Tryd.isAgg60,
 z70 := Tryd.sizeOf60,
 v70 := Tryd.zeroValue60,
 t72 := Tryd.underlying62,
 a72 := Tryd.isAgg62,
 z72 := Tryd.sizeOf62,
 v72 := Tryd.zeroValue62,
 t75 := Tryd.underlying65,
 a75 := Tryd.isAgg65,
 z75 := Tryd.sizeOf65,
 v75 := Tryd.zeroValue65,
 t76 := Tryd.underlying66,
 a76 := Tryd.isAgg66,
 z76 := Tryd.sizeOf66,
 v76 := Tryd.zeroValue66,
 t127 := Tryd.underlying69,
 a127 := Tryd.isAgg69,
 z127 := Tryd.sizeOf69,
 v127 := Tryd.zeroValue69,
 t164 := Tryd.underlying71,
 a164 := Tryd.isAgg71,
 z164 := Tryd.sizeOf71,
 v164 := Tryd.zeroValue71 }
theorem lays156X : Go.Proofs.Builder.Extra Tryd.prog lays156_ren := {
 sizeBuilder := by kernel_rfl,
 liesBuilder := by kernel_rfl,
 t5 := Tryd.underlying5,
 a5 := Tryd.isAgg5,
 z5 := Tryd.sizeOf5,
 v5 := Tryd.zeroValue5,
 infoByte := by kernel_rfl,
 cellsByte := by kernel_rfl,
 sizeByte := by kernel_rfl,
 neB5 := by decide }
def lays171_ren : Go.Shelf.Ren := ⟨fun | 129 => 57 | 171 => 42 | 243 => 46 | 246 => 49 | 283 => 52 | 284 => 53 | 285 => 54 | 286 => 55 | 317 => 56 | 318 => 58 | 319 => 59 | 320 => 60 | 337 => 61 | 338 => 62 | n => n, fun | 0 => 0 | 2 => 2 | 3 => 3 | 4 => 4 | 5 => 5 | 9 => 9 | 20 => 20 | 37 => 58 | 46 => 85 | 51 => 83 | 53 => 75 | 171 => 74 | 173 => 78 | 212 => 82 | 213 => 84 | 232 => 88 | 233 => 89 | n => n, fun | 17 => 1 | 18 => 2 | 19 => 3 | n => n⟩
theorem lays171 : Go.Proofs.LaysM.n171 Tryd.prog lays171_ren := {
 mixed := by kernel_rfl,
 f129 := Tryd.func57.trans (congrArg some (by kernel_rfl)),
 f171 := Tryd.func42.trans (congrArg some (by kernel_rfl)),
 f243 := Tryd.func46.trans (congrArg some (by kernel_rfl)),
 f246 := Tryd.func49.trans (congrArg some (by kernel_rfl)),
 f283 := Tryd.func52.trans (congrArg some (by kernel_rfl)),
 f284 := Tryd.func53.trans (congrArg some (by kernel_rfl)),
 f285 := Tryd.func54.trans (congrArg some (by kernel_rfl)),
 f286 := Tryd.func55.trans (congrArg some (by kernel_rfl)),
 f317 := Tryd.func56.trans (congrArg some (by kernel_rfl)),
 f318 := Tryd.func58.trans (congrArg some (by kernel_rfl)),
 f319 := Tryd.func59.trans (congrArg some (by kernel_rfl)),
 f320 := Tryd.func60.trans (congrArg some (by kernel_rfl)),
 f337 := Tryd.func61.trans (congrArg some (by kernel_rfl)),
 f338 := Tryd.func62.trans (congrArg some (by kernel_rfl)),
 t0 := Tryd.underlying0,
 a0 := Tryd.isAgg0,
 z0 := Tryd.sizeOf0,
 v0 := Tryd.zeroValue0,
 t2 := Tryd.underlying2,
 a2 := Tryd.isAgg2,
 z2 := Tryd.sizeOf2,
 v2 := Tryd.zeroValue2,
 t3 := Tryd.underlying3,
 a3 := Tryd.isAgg3,
 z3 := Tryd.sizeOf3,
 v3 := Tryd.zeroValue3,
 t4 := Tryd.underlying4,
 a4 := Tryd.isAgg4,
 z4 := Tryd.sizeOf4,
 v4 := Tryd.zeroValue4,
 t5 := Tryd.underlying5,
 a5 := Tryd.isAgg5,
 z5 := Tryd.sizeOf5,
 v5 := Tryd.zeroValue5,
 t9 := Tryd.underlying9,
 a9 := Tryd.isAgg9,
 z9 := Tryd.sizeOf9,
 v9 := Tryd.zeroValue9,
 t20 := Tryd.underlying20,
 a20 := Tryd.isAgg20,
 z20 := Tryd.sizeOf20,
 v20 := Tryd.zeroValue20,
 t37 := Tryd.underlying58,
 a37 := Tryd.isAgg58,
 z37 := Tryd.sizeOf58,
 v37 := Tryd.zeroValue58,
 t46 := Tryd.underlying85,
 a46 := Tryd.isAgg85,
 z46 := Tryd.sizeOf85,
 v46 := Tryd.zeroValue85,
 t51 := Tryd.underlying83,
 a51 := Tryd.isAgg83,
 z51 := Tryd.sizeOf83,
 v51 := Tryd.zeroValue83,
 t53 := Tryd.underlying75,
 a53 := Tryd.isAgg75,
 z53 := Tryd.sizeOf75,
 v53 := Tryd.zeroValue75,
 t171 := Tryd.underlying74,
 a171 := Tryd.isAgg74,
 z171 := Tryd.sizeOf74,
 v171 := Tryd.zeroValue74,
 t173 := Tryd.underlying78,
 a173 := Tryd.isAgg78,
 z173 := Tryd.sizeOf78,
 v173 := Tryd.zeroValue78,
 t212 := Tryd.underlying82,
 a212 := Tryd.isAgg82,
 z212 := Tryd.sizeOf82,
 v212 := Tryd.zeroValue82,
 t213 := Tryd.underlying84,
 a213 := Tryd.isAgg84,
 z213 := Tryd.sizeOf84,
 t232 := Tryd.underlying88,
 a232 := Tryd.isAgg88,
 z232 := Tryd.sizeOf88,
 v232 := Tryd.zeroValue88,
 t233 := Tryd.underlying89,
 a233 := Tryd.isAgg89,
 z233 := Tryd.sizeOf89,
 v233 := Tryd.zeroValue89,
 g17 := by kernel_rfl,
 g18 := by kernel_rfl,
 g19 := by kernel_rfl,
 i0 := by kernel_rfl,
 i2 := by kernel_rfl,
 i3 := by kernel_rfl,
 i4 := by kernel_rfl,
 i5 := by kernel_rfl,
 i9 := by kernel_rfl,
 i20 := by kernel_rfl,
 i37 := by kernel_rfl,
 i46 := by kernel_rfl,
 i51 := by kernel_rfl,
 i53 := by kernel_rfl,
 i171 := by kernel_rfl,
 i173 := by kernel_rfl,
 i212 := by kernel_rfl,
 i232 := by kernel_rfl,
 i233 := by kernel_rfl,
 m17 := by kernel_rfl,
 m18 := by kernel_rfl,
 m19 := by kernel_rfl }
theorem sp_ok : ∀ j f, SP j = some f → ∀ v r, f v = some r → RetI Tryd.prog (FT j) v r := by
 intro j f hf v r hv
 by_cases h33 : j = 33
 ·subst h33
  have hf2 : some (show InVals (FT 33) → Option (Tup (outTys (FT 33))) from fun v => itoaF v.1.1) = some f := hf
  have hf3 := Option.some.inj hf2
  subst hf3
  exact retI_itoa lays171 (by kernel_rfl) (by decide) (by kernel_rfl) hv
 by_cases h34 : j = 34
 ·subst h34
  have hf2 : some (show InVals (FT 34) → Option (Tup (outTys (FT 34))) from fun v => joinF v.1.1 v.1.2.1) = some f := hf
  have hf3 := Option.some.inj hf2
  subst hf3
  exact retI_join lays156 lays156X (by kernel_rfl) (by decide) hv
 unfold SP at hf
 rw [dif_neg h33, dif_neg h34] at hf
 cases hf
theorem ft_ok : FTok Tryd.prog tt FT SP := FTok.of tt_ok (by kernel_rfl) ⟨Tryd.func3, Tryd.func3, Tryd.func4, Tryd.func12, Tryd.func5, Tryd.func13, Tryd.func22, Tryd.func7, Tryd.func16, Tryd.func8, Tryd.func17, Tryd.func26, Tryd.func6, Tryd.func14, Tryd.func23, Tryd.func34, Tryd.func35, Tryd.func36, Tryd.func24, Tryd.func37, Tryd.func15, Tryd.func25, Tryd.func9, Tryd.func18, Tryd.func27, Tryd.func38, Tryd.func39, Tryd.func28, Tryd.func40, Tryd.func29, Tryd.func30, Tryd.func41, Tryd.func19, Tryd.func31, Tryd.func42, Tryd.func32, Tryd.func10, Tryd.func20, Tryd.func11, Tryd.func21, Tryd.func33, trivial⟩ (by kernel_rfl) (sp_ok)
noncomputable def F_laws_FnExactStoreText (a0 : List STable) (a1 : List Yt3) : Option Bool := callL tt FT SP 0 (show InVals (FT 0) from ((a0, a1, ()), (())))
noncomputable def F_laws_szTableS (a0 : List STable) (a1 : Int) : Option Int := callL tt FT SP 1 (show InVals (FT 1) from ((a0, a1, ()), (())))
noncomputable def F_laws_szTable (a0 : STable) (a1 : Int) : Option Int := callL tt FT SP 2 (show InVals (FT 2) from ((a0, a1, ()), (())))
noncomputable def F_laws_szIntSSS (a0 : List Yt3) (a1 : Int) : Option Int := callL tt FT SP 3 (show InVals (FT 3) from ((a0, a1, ()), (())))
noncomputable def F_laws_szIntSS (a0 : List Yt7) (a1 : Int) : Option Int := callL tt FT SP 4 (show InVals (FT 4) from ((a0, a1, ()), (())))
noncomputable def F_laws_szIntS (a0 : List Int) (a1 : Int) : Option Int := callL tt FT SP 5 (show InVals (FT 5) from ((a0, a1, ()), (())))
noncomputable def F_laws_toTableS (a0 : List STable) : Option (List STable) := callL tt FT SP 6 (show InVals (FT 6) from ((a0, ()), (())))
noncomputable def F_laws_toTable (a0 : STable) : Option STable := callL tt FT SP 7 (show InVals (FT 7) from ((a0, ()), (())))
noncomputable def F_laws_toIntSSS (a0 : List Yt3) : Option (List Yt3) := callL tt FT SP 8 (show InVals (FT 8) from ((a0, ()), (())))
noncomputable def F_laws_toIntSS (a0 : List Yt7) : Option Yt3 := callL tt FT SP 9 (show InVals (FT 9) from ((a0, ()), (())))
noncomputable def F_laws_toIntS (a0 : List Int) : Option Yt7 := callL tt FT SP 10 (show InVals (FT 10) from ((a0, ()), (())))
noncomputable def F_spec_StoreText (a0 : List STable) (a1 : List Yt3) : Option ByteArray := callL tt FT SP 11 (show InVals (FT 11) from ((a0, a1, ()), (())))
noncomputable def F_spec_StoreOk (a0 : List STable) (a1 : List Yt3) : Option Bool := callL tt FT SP 12 (show InVals (FT 12) from ((a0, a1, ()), (())))
noncomputable def F_spec_SchemaOk (a0 : List STable) : Option Bool := callL tt FT SP 13 (show InVals (FT 13) from ((a0, ()), (())))
noncomputable def F_spec_WordOk (a0 : ByteArray) : Option Bool := callL tt FT SP 14 (show InVals (FT 14) from ((a0, ()), (())))
noncomputable def F_spec_l01In (a0 : Int) (a1 : Int) (a2 : Int) : Option Bool := callL tt FT SP 15 (show InVals (FT 15) from ((a0, a1, a2, ()), (())))
noncomputable def F_spec_l01Less (a0 : ByteArray) (a1 : ByteArray) : Option Bool := callL tt FT SP 16 (show InVals (FT 16) from ((a0, a1, ()), (())))
noncomputable def F_spec_l04Value (a0 : Int) : Option Bool := callL tt FT SP 17 (show InVals (FT 17) from ((a0, ()), (())))
noncomputable def F_spec_l01Number (a0 : Int) : Option Bool := callL tt FT SP 18 (show InVals (FT 18) from ((a0, ()), (())))
noncomputable def F_spec_RowText (a0 : List Int) : Option ByteArray := callL tt FT SP 19 (show InVals (FT 19) from ((a0, ()), (())))
noncomputable def F_spec_l01Num (a0 : Int) : Option ByteArray := callL tt FT SP 20 (show InVals (FT 20) from ((a0, ()), (())))
noncomputable def F_impl_StoreText (a0 : List STable) (a1 : List Yt3) : Option ByteArray := callL tt FT SP 21 (show InVals (FT 21) from ((a0, a1, ()), (())))
noncomputable def F_impl_StoreOk (a0 : List STable) (a1 : List Yt3) : Option Bool := callL tt FT SP 22 (show InVals (FT 22) from ((a0, a1, ()), (())))
noncomputable def F_impl_SchemaOk (a0 : List STable) : Option Bool := callL tt FT SP 23 (show InVals (FT 23) from ((a0, ()), (())))
noncomputable def F_impl_WordOk (a0 : ByteArray) : Option Bool := callL tt FT SP 24 (show InVals (FT 24) from ((a0, ()), (())))
noncomputable def F_impl_in (a0 : Int) (a1 : Int) (a2 : Int) : Option Bool := callL tt FT SP 25 (show InVals (FT 25) from ((a0, a1, a2, ()), (())))
noncomputable def F_slices_ContainsFunc_Lint_impl_StoreOk_1 (a0 : List Int) : Option Bool := callL tt FT SP 26 (show InVals (FT 26) from ((a0, (()), ()), (())))
noncomputable def F_slices_IndexFunc_Lint_impl_StoreOk_1 (a0 : List Int) : Option Int := callL tt FT SP 27 (show InVals (FT 27) from ((a0, (()), ()), (())))
noncomputable def F_impl_StoreOk_1 (a0 : Int) : Option Bool := callL tt FT SP 28 (show InVals (FT 28) from ((a0, ()), (())))
noncomputable def F_impl_isValue (a0 : Int) : Option Bool := callL tt FT SP 29 (show InVals (FT 29) from ((a0, ()), (())))
noncomputable def F_impl_isNum (a0 : Int) : Option Bool := callL tt FT SP 30 (show InVals (FT 30) from ((a0, ()), (())))
noncomputable def F_impl_RowText (a0 : List Int) : Option ByteArray := callL tt FT SP 31 (show InVals (FT 31) from ((a0, ()), (())))
noncomputable def F_impl_number (a0 : Int) : Option ByteArray := callL tt FT SP 32 (show InVals (FT 32) from ((a0, ()), (())))
noncomputable def F_strconv_Itoa (a0 : Int) : Option ByteArray := callL tt FT SP 33 (show InVals (FT 33) from ((a0, ()), (())))
noncomputable def F_strings_Join (a0 : List ByteArray) (a1 : ByteArray) : Option (ByteArray × (List ByteArray)) := callL tt FT SP 34 (show InVals (FT 34) from ((a0, a1, ()), (())))
noncomputable def F_laws_eqTableS (a0 : List STable) (a1 : List STable) : Option Bool := callL tt FT SP 35 (show InVals (FT 35) from ((a0, a1, ()), (())))
noncomputable def F_laws_eqTable (a0 : STable) (a1 : STable) : Option Bool := callL tt FT SP 36 (show InVals (FT 36) from ((a0, a1, ()), (())))
noncomputable def F_laws_eqIntSSS (a0 : List Yt3) (a1 : List Yt3) : Option Bool := callL tt FT SP 37 (show InVals (FT 37) from ((a0, a1, ()), (())))
noncomputable def F_laws_eqIntSS (a0 : List Yt7) (a1 : List Yt7) : Option Bool := callL tt FT SP 38 (show InVals (FT 38) from ((a0, a1, ()), (())))
noncomputable def F_laws_eqIntS (a0 : List Int) (a1 : List Int) : Option Bool := callL tt FT SP 39 (show InVals (FT 39) from ((a0, a1, ()), (())))
theorem U_laws_FnExactStoreText (a0 : List STable) (a1 : List Yt3) : Le ((F_laws_szTableS a0 1048576).bind (fun y1 => (bif (decide (y1 < 0)) then
 some true
 else (F_laws_szIntSSS a1 y1).bind (fun y2 => (bif (decide (y2 < 0)) then
 some true
 else (F_laws_toTableS a0).bind (fun y3 => (F_laws_toIntSSS a1).bind (fun y4 => (F_spec_StoreText y3 y4).bind (fun y5 => (F_laws_toTableS a0).bind (fun y6 => (F_laws_toIntSSS a1).bind (fun y7 => (F_impl_StoreText y6 y7).bind (fun y8 => (bif (!(y8.toList == y5.toList)) then
 some false
 else (F_laws_toTableS a0).bind (fun y9 => (F_laws_eqTableS y6 y9).bind (fun y10 => (bif (!y10) then
 some false
 else (F_laws_toIntSSS a1).bind (fun y11 => (F_laws_eqIntSSS y7 y11).bind (fun y12 => (bif (!y12) then
 some false
 else some true)))))))))))))))))) (F_laws_FnExactStoreText a0 a1) := callL_le (tt := tt) (FT := FT) (SP := SP) (j := 0) rfl (by kernel_rfl)
noncomputable def L_laws_szTableSx0 (a0 : List STable) (f0 : (Int × Int × Int) → Option (Ex Int (Int × Int))) (v1 : Int) (v2 : Int) (v3 : Int) : Option (Ex Int (Int × Int)) :=
 (bif (decide (v3 < (a0.length : Int))) then
 (ix a0 v3).bind (fun z4 => (F_laws_szTable z4 v1).bind (fun y5 => (bif (decide (y5 < 0)) then
 some (.ret (-1))
 else f0 (y5, v2, (IntKind.i64.wrap (v3 + 1))))))
 else some (.go (v1, v2)))
@[simp] noncomputable def J_laws_szTableSx0 (v6 : Int) (v7 : Int) : Option Int :=
 some v6
theorem U_laws_szTableS (a0 : List STable) (a1 : Int) : Le ((bif (decide ((IntKind.i64.wrap (a1 - (a0.length : Int))) < 0)) then
 some (-1)
 else joinK (loopF (fun f s => L_laws_szTableSx0 a0 f s.1 s.2.1 s.2.2) ((IntKind.i64.wrap (a1 - (a0.length : Int))), 0, 0))
 (fun s => J_laws_szTableSx0 s.1 s.2))) (F_laws_szTableS a0 a1) := callL_le (tt := tt) (FT := FT) (SP := SP) (j := 1) rfl (by kernel_rfl)
theorem U_laws_szTable (a0 : STable) (a1 : Int) : Le ((bif (decide ((IntKind.i64.wrap (a1 - (a0.1.size : Int))) < 0)) then
 some (-1)
 else some (IntKind.i64.wrap (a1 - (a0.1.size : Int))))) (F_laws_szTable a0 a1) := callL_le (tt := tt) (FT := FT) (SP := SP) (j := 2) rfl (by kernel_rfl)
noncomputable def L_laws_szIntSSSx0 (a0 : List Yt3) (f0 : (Int × Int × Int) → Option (Ex Int (Int × Int))) (v1 : Int) (v2 : Int) (v3 : Int) : Option (Ex Int (Int × Int)) :=
 (bif (decide (v3 < (a0.length : Int))) then
 (ix a0 v3).bind (fun z4 => (F_laws_szIntSS z4 v1).bind (fun y5 => (bif (decide (y5 < 0)) then
 some (.ret (-1))
 else f0 (y5, v2, (IntKind.i64.wrap (v3 + 1))))))
 else some (.go (v1, v2)))
@[simp] noncomputable def J_laws_szIntSSSx0 (v6 : Int) (v7 : Int) : Option Int :=
 some v6
theorem U_laws_szIntSSS (a0 : List Yt3) (a1 : Int) : Le ((bif (decide ((IntKind.i64.wrap (a1 - (a0.length : Int))) < 0)) then
 some (-1)
 else joinK (loopF (fun f s => L_laws_szIntSSSx0 a0 f s.1 s.2.1 s.2.2) ((IntKind.i64.wrap (a1 - (a0.length : Int))), 0, 0))
 (fun s => J_laws_szIntSSSx0 s.1 s.2))) (F_laws_szIntSSS a0 a1) := callL_le (tt := tt) (FT := FT) (SP := SP) (j := 3) rfl (by kernel_rfl)
noncomputable def L_laws_szIntSSx0 (a0 : List Yt7) (f0 : (Int × Int × Int) → Option (Ex Int (Int × Int))) (v1 : Int) (v2 : Int) (v3 : Int) : Option (Ex Int (Int × Int)) :=
 (bif (decide (v3 < (a0.length : Int))) then
 (ix a0 v3).bind (fun z4 => (F_laws_szIntS z4 v1).bind (fun y5 => (bif (decide (y5 < 0)) then
 some (.ret (-1))
 else f0 (y5, v2, (IntKind.i64.wrap (v3 + 1))))))
 else some (.go (v1, v2)))
@[simp] noncomputable def J_laws_szIntSSx0 (v6 : Int) (v7 : Int) : Option Int :=
 some v6
theorem U_laws_szIntSS (a0 : List Yt7) (a1 : Int) : Le ((bif (decide ((IntKind.i64.wrap (a1 - (a0.length : Int))) < 0)) then
 some (-1)
 else joinK (loopF (fun f s => L_laws_szIntSSx0 a0 f s.1 s.2.1 s.2.2) ((IntKind.i64.wrap (a1 - (a0.length : Int))), 0, 0))
 (fun s => J_laws_szIntSSx0 s.1 s.2))) (F_laws_szIntSS a0 a1) := callL_le (tt := tt) (FT := FT) (SP := SP) (j := 4) rfl (by kernel_rfl)
theorem U_laws_szIntS (a0 : List Int) (a1 : Int) : Le ((bif (decide ((IntKind.i64.wrap (a1 - (a0.length : Int))) < 0)) then
 some (-1)
 else some (IntKind.i64.wrap (a1 - (a0.length : Int))))) (F_laws_szIntS a0 a1) := callL_le (tt := tt) (FT := FT) (SP := SP) (j := 5) rfl (by kernel_rfl)
noncomputable def L_laws_toTableSx0 (a0 : List STable) (f0 : ((List STable) × Int) → Option (Ex (List STable) (List STable))) (v2 : List STable) (v3 : Int) : Option (Ex (List STable) (List STable)) :=
 (bif (decide (v3 < (a0.length : Int))) then
 (ix a0 v3).bind (fun z4 => (F_laws_toTable z4).bind (fun y5 => (ix v2 v3).bind (fun z6 => (stx v2 v3 y5).bind (fun z7 => f0 (z7, (IntKind.i64.wrap (v3 + 1)))))))
 else some (.go v2))
@[simp] noncomputable def J_laws_toTableSx0 (v8 : List STable) : Option (List STable) :=
 some v8
theorem U_laws_toTableS (a0 : List STable) : Le ((mkx (a0.length : Int) ((ByteArray.empty, (0, ())) : STable)).bind (fun z1 => joinK (loopF (fun f s => L_laws_toTableSx0 a0 f s.1 s.2) (z1, 0))
 (fun s => J_laws_toTableSx0 s))) (F_laws_toTableS a0) := callL_le (tt := tt) (FT := FT) (SP := SP) (j := 6) rfl (by kernel_rfl)
theorem U_laws_toTable (a0 : STable) : Le (some (a0.1, (a0.2.1, ()))) (F_laws_toTable a0) := callL_le (tt := tt) (FT := FT) (SP := SP) (j := 7) rfl (by kernel_rfl)
noncomputable def L_laws_toIntSSSx0 (a0 : List Yt3) (f0 : ((List Yt3) × Int) → Option (Ex (List Yt3) (List Yt3))) (v2 : List Yt3) (v3 : Int) : Option (Ex (List Yt3) (List Yt3)) :=
 (bif (decide (v3 < (a0.length : Int))) then
 (ix a0 v3).bind (fun z4 => (F_laws_toIntSS z4).bind (fun y5 => (ix v2 v3).bind (fun z6 => (stx v2 v3 y5).bind (fun z7 => f0 (z7, (IntKind.i64.wrap (v3 + 1)))))))
 else some (.go v2))
@[simp] noncomputable def J_laws_toIntSSSx0 (v8 : List Yt3) : Option (List Yt3) :=
 some v8
theorem U_laws_toIntSSS (a0 : List Yt3) : Le ((mkx (a0.length : Int) ([] : List Yt7)).bind (fun z1 => joinK (loopF (fun f s => L_laws_toIntSSSx0 a0 f s.1 s.2) (z1, 0))
 (fun s => J_laws_toIntSSSx0 s))) (F_laws_toIntSSS a0) := callL_le (tt := tt) (FT := FT) (SP := SP) (j := 8) rfl (by kernel_rfl)
noncomputable def L_laws_toIntSSx0 (a0 : List Yt7) (f0 : (Yt3 × Int) → Option (Ex Yt3 Yt3)) (v2 : List Yt7) (v3 : Int) : Option (Ex Yt3 Yt3) :=
 (bif (decide (v3 < (a0.length : Int))) then
 (ix a0 v3).bind (fun z4 => (F_laws_toIntS z4).bind (fun y5 => (ix v2 v3).bind (fun z6 => (stx v2 v3 y5).bind (fun z7 => f0 (z7, (IntKind.i64.wrap (v3 + 1)))))))
 else some (.go v2))
@[simp] noncomputable def J_laws_toIntSSx0 (v8 : List Yt7) : Option Yt3 :=
 some v8
theorem U_laws_toIntSS (a0 : List Yt7) : Le ((mkx (a0.length : Int) ([] : List Int)).bind (fun z1 => joinK (loopF (fun f s => L_laws_toIntSSx0 a0 f s.1 s.2) (z1, 0))
 (fun s => J_laws_toIntSSx0 s))) (F_laws_toIntSS a0) := callL_le (tt := tt) (FT := FT) (SP := SP) (j := 9) rfl (by kernel_rfl)
noncomputable def L_laws_toIntSx0 (a0 : List Int) (f0 : (Yt7 × Int) → Option (Ex Yt7 Yt7)) (v2 : List Int) (v3 : Int) : Option (Ex Yt7 Yt7) :=
 (bif (decide (v3 < (a0.length : Int))) then
 (ix a0 v3).bind (fun z4 => (ix v2 v3).bind (fun z5 => (stx v2 v3 z4).bind (fun z6 => f0 (z6, (IntKind.i64.wrap (v3 + 1))))))
 else some (.go v2))
@[simp] noncomputable def J_laws_toIntSx0 (v7 : List Int) : Option Yt7 :=
 some v7
theorem U_laws_toIntS (a0 : List Int) : Le ((mkx (a0.length : Int) (0 : Int)).bind (fun z1 => joinK (loopF (fun f s => L_laws_toIntSx0 a0 f s.1 s.2) (z1, 0))
 (fun s => J_laws_toIntSx0 s))) (F_laws_toIntS a0) := callL_le (tt := tt) (FT := FT) (SP := SP) (j := 10) rfl (by kernel_rfl)
noncomputable def L_spec_StoreTextx1 (a1 : List Yt3) (v3 : Int) (f1 : Yt8 → Option (Ex (Ex Yt5 ByteArray) ByteArray)) (v7 : ByteArray) (v8 : Int) : Option (Ex (Ex Yt5 ByteArray) ByteArray) :=
 (ix a1 v3).bind (fun z9 => (bif (decide (v8 < (z9.length : Int))) then
 (addx v7 (⟨#[32]⟩ : ByteArray)).bind (fun z10 => (ix a1 v3).bind (fun z11 => (ix z11 v8).bind (fun z12 => (F_spec_RowText z12).bind (fun y13 => (addx z10 y13).bind (fun z14 => f1 (z14, (IntKind.i64.wrap (v8 + 1))))))))
 else some (.go v7)))
@[simp] noncomputable def J_spec_StoreTextx2 (v15 : ByteArray) : Option (Ex Yt5 ByteArray) :=
 (addx v15 (⟨#[10]⟩ : ByteArray)).bind (fun z16 => some (.go z16))
@[simp] noncomputable def J_spec_StoreTextx1 (v3 : Int) (f0 : Yt8 → Option Yt5) (v17 : ByteArray) : Option Yt5 :=
 f0 (v17, (IntKind.i64.wrap (v3 + 1)))
noncomputable def L_spec_StoreTextx0 (a0 : List STable) (a1 : List Yt3) (f0 : Yt8 → Option Yt5) (v2 : ByteArray) (v3 : Int) : Option Yt5 :=
 (bif (decide (v3 < (a0.length : Int))) then
 joinK ((ix a0 v3).bind (fun z4 => (addx v2 z4.1).bind (fun z5 => (addx z5 (⟨#[58]⟩ : ByteArray)).bind (fun z6 => joinK (loopF (fun f s => L_spec_StoreTextx1 a1 v3 f s.1 s.2) (z6, 0))
 (fun s => J_spec_StoreTextx2 s)))))
 (fun s => J_spec_StoreTextx1 v3 f0 s)
 else some (.go v2))
@[simp] noncomputable def J_spec_StoreTextx0 (v18 : ByteArray) : Option ByteArray :=
 some v18
theorem U_spec_StoreText (a0 : List STable) (a1 : List Yt3) : Le ((F_spec_StoreOk a0 a1).bind (fun y1 => (bif (!y1) then
 some ByteArray.empty
 else joinK (loopF (fun f s => L_spec_StoreTextx0 a0 a1 f s.1 s.2) (ByteArray.empty, 0))
 (fun s => J_spec_StoreTextx0 s)))) (F_spec_StoreText a0 a1) := callL_le (tt := tt) (FT := FT) (SP := SP) (j := 11) rfl (by kernel_rfl)
noncomputable def L_spec_StoreOkx2 (a1 : List Yt3) (v4 : Int) (v7 : Int) (f2 : Yt6 → Option (Ex (Ex Yt4 Bool) Bool)) (v12 : Bool) (v13 : Int) : Option (Ex (Ex Yt4 Bool) Bool) :=
 (ix a1 v4).bind (fun z14 => (ix z14 v7).bind (fun z15 => (bif (decide (v13 < (z15.length : Int))) then
 (ix a1 v4).bind (fun z16 => (ix z16 v7).bind (fun z17 => (ix z17 v13).bind (fun z18 => (F_spec_l04Value z18).bind (fun y19 => (bif (!y19) then
 some (.ret (.ret (.ret false)))
 else f2 (v12, (IntKind.i64.wrap (v13 + 1))))))))
 else some (.go v12))))
@[simp] noncomputable def J_spec_StoreOkx3 (v7 : Int) (f1 : Yt6 → Option (Ex Yt4 Bool)) (v20 : Bool) : Option (Ex Yt4 Bool) :=
 f1 (v20, (IntKind.i64.wrap (v7 + 1)))
noncomputable def L_spec_StoreOkx1 (a0 : List STable) (a1 : List Yt3) (v4 : Int) (f1 : Yt6 → Option (Ex Yt4 Bool)) (v6 : Bool) (v7 : Int) : Option (Ex Yt4 Bool) :=
 (ix a1 v4).bind (fun z8 => (bif (decide (v7 < (z8.length : Int))) then
 joinK ((ix a1 v4).bind (fun z9 => (ix z9 v7).bind (fun z10 => (ix a0 v4).bind (fun z11 => (bif ((z10.length : Int) != z11.2.1) then
 some (.ret (.ret (.ret false)))
 else loopF (fun f s => L_spec_StoreOkx2 a1 v4 v7 f s.1 s.2) (v6, 0))))))
 (fun s => J_spec_StoreOkx3 v7 f1 s)
 else some (.go v6)))
@[simp] noncomputable def J_spec_StoreOkx2 (v4 : Int) (f0 : Yt6 → Option Yt4) (v21 : Bool) : Option Yt4 :=
 f0 (v21, (IntKind.i64.wrap (v4 + 1)))
noncomputable def L_spec_StoreOkx0 (a0 : List STable) (a1 : List Yt3) (f0 : Yt6 → Option Yt4) (v3 : Bool) (v4 : Int) : Option Yt4 :=
 (bif (decide (v4 < (a0.length : Int))) then
 joinK ((ix a1 v4).bind (fun z5 => (bif (decide ((z5.length : Int) > 40)) then
 some (.ret (.ret false))
 else loopF (fun f s => L_spec_StoreOkx1 a0 a1 v4 f s.1 s.2) (v3, 0))))
 (fun s => J_spec_StoreOkx2 v4 f0 s)
 else some (.go v3))
@[simp] noncomputable def J_spec_StoreOkx1 (v22 : Bool) : Option Bool :=
 some true
@[simp] noncomputable def J_spec_StoreOkx0 (a0 : List STable) (a1 : List Yt3) (v2 : Bool) : Option Bool :=
 (bif v2 then
 some false
 else joinK (loopF (fun f s => L_spec_StoreOkx0 a0 a1 f s.1 s.2) (false, 0))
 (fun s => J_spec_StoreOkx1 s))
theorem U_spec_StoreOk (a0 : List STable) (a1 : List Yt3) : Le (joinK ((F_spec_SchemaOk a0).bind (fun y1 => (bif (!y1) then
 some (.go true)
 else some (.go ((a1.length : Int) != (a0.length : Int))))))
 (fun s => J_spec_StoreOkx0 a0 a1 s)) (F_spec_StoreOk a0 a1) := callL_le (tt := tt) (FT := FT) (SP := SP) (j := 12) rfl (by kernel_rfl)
@[simp] noncomputable def J_spec_SchemaOkx1 (v1 : Bool) (v2 : Int) (f0 : Yt6 → Option Yt4) (v10 : Bool) : Option Yt4 :=
 (bif v10 then
 some (.ret false)
 else f0 (v1, (IntKind.i64.wrap (v2 + 1))))
noncomputable def L_spec_SchemaOkx0 (a0 : List STable) (f0 : Yt6 → Option Yt4) (v1 : Bool) (v2 : Int) : Option Yt4 :=
 (bif (decide (v2 < (a0.length : Int))) then
 joinK ((ix a0 v2).bind (fun z3 => (F_spec_WordOk z3.1).bind (fun y4 => (bif (!y4) then
 some (.go true)
 else (ix a0 v2).bind (fun z5 => (F_spec_l01In z5.2.1 1 6).bind (fun y6 => (bif (!y6) then
 some (.go true)
 else (bif (decide (v2 > 0)) then
 (ix a0 (IntKind.i64.wrap (v2 - 1))).bind (fun z7 => (ix a0 v2).bind (fun z8 => (F_spec_l01Less z7.1 z8.1).bind (fun y9 => some (.go (!y9)))))
 else some (.go false)))))))))
 (fun s => J_spec_SchemaOkx1 v1 v2 f0 s)
 else some (.go v1))
@[simp] noncomputable def J_spec_SchemaOkx0 (v11 : Bool) : Option Bool :=
 some true
theorem U_spec_SchemaOk (a0 : List STable) : Le ((bif (decide ((a0.length : Int) > 8)) then
 some false
 else joinK (loopF (fun f s => L_spec_SchemaOkx0 a0 f s.1 s.2) (false, 0))
 (fun s => J_spec_SchemaOkx0 s))) (F_spec_SchemaOk a0) := callL_le (tt := tt) (FT := FT) (SP := SP) (j := 13) rfl (by kernel_rfl)
@[simp] noncomputable def J_spec_WordOkx2 (v4 : Bool) (v5 : Int) (f0 : Yt6 → Option Yt4) (v12 : Bool) : Option Yt4 :=
 (bif v12 then
 some (.ret false)
 else f0 (v4, (IntKind.i64.wrap (v5 + 1))))
noncomputable def L_spec_WordOkx0 (a0 : ByteArray) (f0 : Yt6 → Option Yt4) (v4 : Bool) (v5 : Int) : Option Yt4 :=
 (bif (decide (v5 < (a0.size : Int))) then
 joinK ((bix a0 v5).bind (fun z6 => (bif (decide (z6 < 97)) then
 (bix a0 v5).bind (fun z7 => (bif (decide (z7 < 48)) then
 some (.go true)
 else (bix a0 v5).bind (fun z8 => some (.go (decide (z8 > 57))))))
 else (bix a0 v5).bind (fun z9 => (bif (decide (z9 > 122)) then
 (bix a0 v5).bind (fun z10 => (bif (decide (z10 < 48)) then
 some (.go true)
 else (bix a0 v5).bind (fun z11 => some (.go (decide (z11 > 57))))))
 else some (.go false))))))
 (fun s => J_spec_WordOkx2 v4 v5 f0 s)
 else some (.go v4))
@[simp] noncomputable def J_spec_WordOkx1 (v13 : Bool) : Option Bool :=
 some true
@[simp] noncomputable def J_spec_WordOkx0 (a0 : ByteArray) (v3 : Bool) : Option Bool :=
 (bif v3 then
 some false
 else joinK (loopF (fun f s => L_spec_WordOkx0 a0 f s.1 s.2) (false, 0))
 (fun s => J_spec_WordOkx1 s))
theorem U_spec_WordOk (a0 : ByteArray) : Le (joinK ((F_spec_l01In (a0.size : Int) 1 12).bind (fun y1 => (bif (!y1) then
 some (.go true)
 else (bix a0 0).bind (fun z2 => some (.go (decide (z2 < 97)))))))
 (fun s => J_spec_WordOkx0 a0 s)) (F_spec_WordOk a0) := callL_le (tt := tt) (FT := FT) (SP := SP) (j := 14) rfl (by kernel_rfl)
@[simp] noncomputable def J_spec_l01Inx0 (v1 : Bool) : Option Bool :=
 some v1
theorem U_spec_l01In (a0 : Int) (a1 : Int) (a2 : Int) : Le (joinK ((bif (decide (a1 ≤ a0)) then
 some (.go (decide (a0 ≤ a2)))
 else some (.go false)))
 (fun s => J_spec_l01Inx0 s)) (F_spec_l01In a0 a1 a2) := callL_le (tt := tt) (FT := FT) (SP := SP) (j := 15) rfl (by kernel_rfl)
@[simp] noncomputable def J_spec_l01Lessx1 (a0 : ByteArray) (a1 : ByteArray) (v1 : Bool) (v2 : Int) (f0 : Yt6 → Option Yt4) (v3 : Bool) : Option Yt4 :=
 (bif v3 then
 (bix a0 v2).bind (fun z4 => (bix a1 v2).bind (fun z5 => (bif (z4 != z5) then
 (bix a0 v2).bind (fun z6 => (bix a1 v2).bind (fun z7 => some (.ret (decide (z6 < z7)))))
 else f0 (v1, (IntKind.i64.wrap (v2 + 1))))))
 else some (.go v1))
noncomputable def L_spec_l01Lessx0 (a0 : ByteArray) (a1 : ByteArray) (f0 : Yt6 → Option Yt4) (v1 : Bool) (v2 : Int) : Option Yt4 :=
 joinK ((bif (decide (v2 < (a0.size : Int))) then
 some (.go (decide (v2 < (a1.size : Int))))
 else some (.go false)))
 (fun s => J_spec_l01Lessx1 a0 a1 v1 v2 f0 s)
@[simp] noncomputable def J_spec_l01Lessx0 (a0 : ByteArray) (a1 : ByteArray) (v8 : Bool) : Option Bool :=
 some (decide ((a0.size : Int) < (a1.size : Int)))
theorem U_spec_l01Less (a0 : ByteArray) (a1 : ByteArray) : Le (joinK (loopF (fun f s => L_spec_l01Lessx0 a0 a1 f s.1 s.2) (false, 0))
 (fun s => J_spec_l01Lessx0 a0 a1 s)) (F_spec_l01Less a0 a1) := callL_le (tt := tt) (FT := FT) (SP := SP) (j := 16) rfl (by kernel_rfl)
@[simp] noncomputable def J_spec_l04Valuex0 (v2 : Bool) : Option Bool :=
 some v2
theorem U_spec_l04Value (a0 : Int) : Le (joinK ((F_spec_l01Number a0).bind (fun y1 => (bif y1 then
 some (.go true)
 else some (.go (a0 == (-2000000))))))
 (fun s => J_spec_l04Valuex0 s)) (F_spec_l04Value a0) := callL_le (tt := tt) (FT := FT) (SP := SP) (j := 17) rfl (by kernel_rfl)
theorem U_spec_l01Number (a0 : Int) : Le ((F_spec_l01In a0 (-1000000) 1000000).bind (fun y1 => some y1)) (F_spec_l01Number a0) := callL_le (tt := tt) (FT := FT) (SP := SP) (j := 18) rfl (by kernel_rfl)
@[simp] noncomputable def J_spec_RowTextx2 (a0 : List Int) (v2 : Int) (v4 : ByteArray) : Option (Ex Yt5 ByteArray) :=
 (ix a0 v2).bind (fun z5 => (bif (z5 == (-2000000)) then
 (addx v4 (⟨#[45]⟩ : ByteArray)).bind (fun z6 => some (.go z6))
 else (ix a0 v2).bind (fun z7 => (F_spec_l01Num z7).bind (fun y8 => (addx v4 y8).bind (fun z9 => some (.go z9))))))
@[simp] noncomputable def J_spec_RowTextx1 (v2 : Int) (f0 : Yt8 → Option Yt5) (v10 : ByteArray) : Option Yt5 :=
 f0 (v10, (IntKind.i64.wrap (v2 + 1)))
noncomputable def L_spec_RowTextx0 (a0 : List Int) (f0 : Yt8 → Option Yt5) (v1 : ByteArray) (v2 : Int) : Option Yt5 :=
 (bif (decide (v2 < (a0.length : Int))) then
 joinK (joinK ((bif (decide (v2 > 0)) then
 (addx v1 (⟨#[44]⟩ : ByteArray)).bind (fun z3 => some (.go z3))
 else some (.go v1)))
 (fun s => J_spec_RowTextx2 a0 v2 s))
 (fun s => J_spec_RowTextx1 v2 f0 s)
 else some (.go v1))
@[simp] noncomputable def J_spec_RowTextx0 (v11 : ByteArray) : Option ByteArray :=
 some v11
theorem U_spec_RowText (a0 : List Int) : Le ((bif ((a0.length : Int) == 0) then
 some (⟨#[40, 41]⟩ : ByteArray)
 else joinK (loopF (fun f s => L_spec_RowTextx0 a0 f s.1 s.2) (ByteArray.empty, 0))
 (fun s => J_spec_RowTextx0 s))) (F_spec_RowText a0) := callL_le (tt := tt) (FT := FT) (SP := SP) (j := 19) rfl (by kernel_rfl)
@[simp] noncomputable def J_spec_l01Numx1 (v1 : Int) (v2 : ByteArray) (f0 : (Int × ByteArray) → Option Yt5) (v4 : Int) : Option Yt5 :=
 (addx (bsOf ([(IntKind.u8.wrap (IntKind.i64.wrap (48 + v4)))])) v2).bind (fun z5 => (quox v1 10).bind (fun z6 => f0 (z6, z5)))
noncomputable def L_spec_l01Numx0 (f0 : (Int × ByteArray) → Option Yt5) (v1 : Int) (v2 : ByteArray) : Option Yt5 :=
 (bif (v1 != 0) then
 (remx v1 10).bind (fun z3 => joinK ((bif (decide (z3 < 0)) then
 some (.go (IntKind.i64.wrap (0 - z3)))
 else some (.go z3)))
 (fun s => J_spec_l01Numx1 v1 v2 f0 s))
 else some (.go v2))
@[simp] noncomputable def J_spec_l01Numx0 (a0 : Int) (v7 : ByteArray) : Option ByteArray :=
 (bif (decide (a0 < 0)) then
 (addx (⟨#[45]⟩ : ByteArray) v7).bind (fun z8 => some z8)
 else some v7)
theorem U_spec_l01Num (a0 : Int) : Le ((bif (a0 == 0) then
 some (⟨#[48]⟩ : ByteArray)
 else joinK (loopF (fun f s => L_spec_l01Numx0 f s.1 s.2) (a0, ByteArray.empty))
 (fun s => J_spec_l01Numx0 a0 s))) (F_spec_l01Num a0) := callL_le (tt := tt) (FT := FT) (SP := SP) (j := 20) rfl (by kernel_rfl)
noncomputable def L_impl_StoreTextx1 (z7 : List Yt7) (f1 : Yt8 → Option (Ex (Ex Yt5 ByteArray) ByteArray)) (v8 : ByteArray) (v9 : Int) : Option (Ex (Ex Yt5 ByteArray) ByteArray) :=
 (bif (decide (v9 < (z7.length : Int))) then
 (ix z7 v9).bind (fun z10 => (F_impl_RowText z10).bind (fun y11 => (addx (⟨#[32]⟩ : ByteArray) y11).bind (fun z12 => (addx v8 z12).bind (fun z13 => f1 (z13, (IntKind.i64.wrap (v9 + 1)))))))
 else some (.go v8))
@[simp] noncomputable def J_impl_StoreTextx2 (v14 : ByteArray) : Option (Ex Yt5 ByteArray) :=
 (addx v14 (⟨#[10]⟩ : ByteArray)).bind (fun z15 => some (.go z15))
@[simp] noncomputable def J_impl_StoreTextx1 (v3 : Int) (f0 : Yt8 → Option Yt5) (v16 : ByteArray) : Option Yt5 :=
 f0 (v16, (IntKind.i64.wrap (v3 + 1)))
noncomputable def L_impl_StoreTextx0 (a0 : List STable) (a1 : List Yt3) (f0 : Yt8 → Option Yt5) (v2 : ByteArray) (v3 : Int) : Option Yt5 :=
 (bif (decide (v3 < (a0.length : Int))) then
 joinK ((ix a0 v3).bind (fun z4 => (addx z4.1 (⟨#[58]⟩ : ByteArray)).bind (fun z5 => (addx v2 z5).bind (fun z6 => joinK ((ix a1 v3).bind (fun z7 => loopF (fun f s => L_impl_StoreTextx1 z7 f s.1 s.2) (z6, 0)))
 (fun s => J_impl_StoreTextx2 s)))))
 (fun s => J_impl_StoreTextx1 v3 f0 s)
 else some (.go v2))
@[simp] noncomputable def J_impl_StoreTextx0 (v17 : ByteArray) : Option ByteArray :=
 some v17
theorem U_impl_StoreText (a0 : List STable) (a1 : List Yt3) : Le ((F_impl_StoreOk a0 a1).bind (fun y1 => (bif (!y1) then
 some ByteArray.empty
 else joinK (loopF (fun f s => L_impl_StoreTextx0 a0 a1 f s.1 s.2) (ByteArray.empty, 0))
 (fun s => J_impl_StoreTextx0 s)))) (F_impl_StoreText a0 a1) := callL_le (tt := tt) (FT := FT) (SP := SP) (j := 21) rfl (by kernel_rfl)
@[simp] noncomputable def J_impl_StoreOkx3 (v6 : Bool) (v7 : Int) (f1 : Yt6 → Option (Ex Yt4 Bool)) (v11 : Bool) : Option (Ex Yt4 Bool) :=
 (bif v11 then
 some (.ret (.ret false))
 else f1 (v6, (IntKind.i64.wrap (v7 + 1))))
noncomputable def L_impl_StoreOkx1 (a0 : List STable) (v4 : Int) (z5 : List Yt7) (f1 : Yt6 → Option (Ex Yt4 Bool)) (v6 : Bool) (v7 : Int) : Option (Ex Yt4 Bool) :=
 (bif (decide (v7 < (z5.length : Int))) then
 (ix z5 v7).bind (fun z8 => joinK ((ix a0 v4).bind (fun z9 => (bif ((z8.length : Int) != z9.2.1) then
 some (.go true)
 else (F_slices_ContainsFunc_Lint_impl_StoreOk_1 z8).bind (fun y10 => some (.go y10)))))
 (fun s => J_impl_StoreOkx3 v6 v7 f1 s))
 else some (.go v6))
@[simp] noncomputable def J_impl_StoreOkx2 (v4 : Int) (f0 : Yt6 → Option Yt4) (v12 : Bool) : Option Yt4 :=
 f0 (v12, (IntKind.i64.wrap (v4 + 1)))
noncomputable def L_impl_StoreOkx0 (a0 : List STable) (a1 : List Yt3) (f0 : Yt6 → Option Yt4) (v3 : Bool) (v4 : Int) : Option Yt4 :=
 (bif (decide (v4 < (a1.length : Int))) then
 joinK ((ix a1 v4).bind (fun z5 => (bif (decide ((z5.length : Int) > 40)) then
 some (.ret (.ret false))
 else loopF (fun f s => L_impl_StoreOkx1 a0 v4 z5 f s.1 s.2) (v3, 0))))
 (fun s => J_impl_StoreOkx2 v4 f0 s)
 else some (.go v3))
@[simp] noncomputable def J_impl_StoreOkx1 (v13 : Bool) : Option Bool :=
 some true
@[simp] noncomputable def J_impl_StoreOkx0 (a0 : List STable) (a1 : List Yt3) (v2 : Bool) : Option Bool :=
 (bif v2 then
 some false
 else joinK (loopF (fun f s => L_impl_StoreOkx0 a0 a1 f s.1 s.2) (false, 0))
 (fun s => J_impl_StoreOkx1 s))
theorem U_impl_StoreOk (a0 : List STable) (a1 : List Yt3) : Le (joinK ((F_impl_SchemaOk a0).bind (fun y1 => (bif (!y1) then
 some (.go true)
 else some (.go ((a1.length : Int) != (a0.length : Int))))))
 (fun s => J_impl_StoreOkx0 a0 a1 s)) (F_impl_StoreOk a0 a1) := callL_le (tt := tt) (FT := FT) (SP := SP) (j := 22) rfl (by kernel_rfl)
@[simp] noncomputable def J_impl_SchemaOkx1 (v1 : Bool) (v2 : Int) (f0 : Yt6 → Option Yt4) (v7 : Bool) : Option Yt4 :=
 (bif v7 then
 some (.ret false)
 else f0 (v1, (IntKind.i64.wrap (v2 + 1))))
noncomputable def L_impl_SchemaOkx0 (a0 : List STable) (f0 : Yt6 → Option Yt4) (v1 : Bool) (v2 : Int) : Option Yt4 :=
 (bif (decide (v2 < (a0.length : Int))) then
 (ix a0 v2).bind (fun z3 => joinK ((F_impl_WordOk z3.1).bind (fun y4 => (bif (!y4) then
 some (.go true)
 else (F_impl_in z3.2.1 1 6).bind (fun y5 => (bif (!y5) then
 some (.go true)
 else (bif (decide (v2 > 0)) then
 (ix a0 (IntKind.i64.wrap (v2 - 1))).bind (fun z6 => some (.go (!(Op.bytesLess z6.1.toList z3.1.toList))))
 else some (.go false)))))))
 (fun s => J_impl_SchemaOkx1 v1 v2 f0 s))
 else some (.go v1))
@[simp] noncomputable def J_impl_SchemaOkx0 (a0 : List STable) (v8 : Bool) : Option Bool :=
 some (decide ((a0.length : Int) ≤ 8))
theorem U_impl_SchemaOk (a0 : List STable) : Le (joinK (loopF (fun f s => L_impl_SchemaOkx0 a0 f s.1 s.2) (false, 0))
 (fun s => J_impl_SchemaOkx0 a0 s)) (F_impl_SchemaOk a0) := callL_le (tt := tt) (FT := FT) (SP := SP) (j := 23) rfl (by kernel_rfl)
@[simp] noncomputable def J_impl_WordOkx2 (v1 : Bool) (v2 : Int) (f0 : Yt6 → Option Yt4) (v5 : Bool) : Option Yt4 :=
 (bif v5 then
 some (.ret false)
 else f0 (v1, (IntKind.i64.wrap (v2 + 1))))
@[simp] noncomputable def J_impl_WordOkx1 (v1 : Bool) (v2 : Int) (z3 : Int) (f0 : Yt6 → Option Yt4) (v4 : Bool) : Option Yt4 :=
 joinK ((bif (!v4) then
 (bif (v2 == 0) then
 some (.go true)
 else (bif (decide (z3 < 48)) then
 some (.go true)
 else some (.go (decide (z3 > 57)))))
 else some (.go false)))
 (fun s => J_impl_WordOkx2 v1 v2 f0 s)
noncomputable def L_impl_WordOkx0 (a0 : ByteArray) (f0 : Yt6 → Option Yt4) (v1 : Bool) (v2 : Int) : Option Yt4 :=
 (bif (decide (v2 < (a0.size : Int))) then
 (bix a0 v2).bind (fun z3 => joinK ((bif (decide (z3 ≥ 97)) then
 some (.go (decide (z3 ≤ 122)))
 else some (.go false)))
 (fun s => J_impl_WordOkx1 v1 v2 z3 f0 s))
 else some (.go v1))
@[simp] noncomputable def J_impl_WordOkx0 (a0 : ByteArray) (v6 : Bool) : Option Bool :=
 (F_impl_in (a0.size : Int) 1 12).bind (fun y7 => some y7)
theorem U_impl_WordOk (a0 : ByteArray) : Le (joinK (loopF (fun f s => L_impl_WordOkx0 a0 f s.1 s.2) (false, 0))
 (fun s => J_impl_WordOkx0 a0 s)) (F_impl_WordOk a0) := callL_le (tt := tt) (FT := FT) (SP := SP) (j := 24) rfl (by kernel_rfl)
@[simp] noncomputable def J_impl_inx0 (v1 : Bool) : Option Bool :=
 some v1
theorem U_impl_in (a0 : Int) (a1 : Int) (a2 : Int) : Le (joinK ((bif (decide (a0 ≥ a1)) then
 some (.go (decide (a0 ≤ a2)))
 else some (.go false)))
 (fun s => J_impl_inx0 s)) (F_impl_in a0 a1 a2) := callL_le (tt := tt) (FT := FT) (SP := SP) (j := 25) rfl (by kernel_rfl)
theorem U_slices_ContainsFunc_Lint_impl_StoreOk_1 (a0 : List Int) : Le ((F_slices_IndexFunc_Lint_impl_StoreOk_1 a0).bind (fun y1 => some (decide (y1 ≥ 0)))) (F_slices_ContainsFunc_Lint_impl_StoreOk_1 a0) := callL_le (tt := tt) (FT := FT) (SP := SP) (j := 26) rfl (by kernel_rfl)
noncomputable def L_slices_IndexFunc_Lint_impl_StoreOk_1x0 (a0 : List Int) (f0 : (Int × Int) → Option (Ex Int Int)) (v1 : Int) (v2 : Int) : Option (Ex Int Int) :=
 (bif (decide (v2 < (a0.length : Int))) then
 (ix a0 v2).bind (fun z3 => (F_impl_StoreOk_1 z3).bind (fun y4 => (bif y4 then
 some (.ret v2)
 else f0 (v1, (IntKind.i64.wrap (v2 + 1))))))
 else some (.go v1))
@[simp] noncomputable def J_slices_IndexFunc_Lint_impl_StoreOk_1x0 (v5 : Int) : Option Int :=
 some (-1)
theorem U_slices_IndexFunc_Lint_impl_StoreOk_1 (a0 : List Int) : Le (joinK (loopF (fun f s => L_slices_IndexFunc_Lint_impl_StoreOk_1x0 a0 f s.1 s.2) (0, 0))
 (fun s => J_slices_IndexFunc_Lint_impl_StoreOk_1x0 s)) (F_slices_IndexFunc_Lint_impl_StoreOk_1 a0) := callL_le (tt := tt) (FT := FT) (SP := SP) (j := 27) rfl (by kernel_rfl)
theorem U_impl_StoreOk_1 (a0 : Int) : Le ((F_impl_isValue a0).bind (fun y1 => some (!y1))) (F_impl_StoreOk_1 a0) := callL_le (tt := tt) (FT := FT) (SP := SP) (j := 28) rfl (by kernel_rfl)
@[simp] noncomputable def J_impl_isValuex0 (v2 : Bool) : Option Bool :=
 some v2
theorem U_impl_isValue (a0 : Int) : Le (joinK ((F_impl_isNum a0).bind (fun y1 => (bif y1 then
 some (.go true)
 else some (.go (a0 == (-2000000))))))
 (fun s => J_impl_isValuex0 s)) (F_impl_isValue a0) := callL_le (tt := tt) (FT := FT) (SP := SP) (j := 29) rfl (by kernel_rfl)
theorem U_impl_isNum (a0 : Int) : Le ((F_impl_in a0 (-1000000) 1000000).bind (fun y1 => some y1)) (F_impl_isNum a0) := callL_le (tt := tt) (FT := FT) (SP := SP) (j := 30) rfl (by kernel_rfl)
@[simp] noncomputable def J_impl_RowTextx1 (v2 : Int) (f0 : ((List ByteArray) × Int) → Option (Ex ByteArray (List ByteArray))) (v7 : List ByteArray) : Option (Ex ByteArray (List ByteArray)) :=
 f0 (v7, (IntKind.i64.wrap (v2 + 1)))
noncomputable def L_impl_RowTextx0 (a0 : List Int) (f0 : ((List ByteArray) × Int) → Option (Ex ByteArray (List ByteArray))) (v1 : List ByteArray) (v2 : Int) : Option (Ex ByteArray (List ByteArray)) :=
 (bif (decide (v2 < (a0.length : Int))) then
 joinK ((ix a0 v2).bind (fun z3 => (bif (z3 == (-2000000)) then
 (apx v1 ([(⟨#[45]⟩ : ByteArray)])).bind (fun z4 => some (.go z4))
 else (F_impl_number z3).bind (fun y5 => (apx v1 ([y5])).bind (fun z6 => some (.go z6))))))
 (fun s => J_impl_RowTextx1 v2 f0 s)
 else some (.go v1))
@[simp] noncomputable def J_impl_RowTextx0 (v8 : List ByteArray) : Option ByteArray :=
 (F_strings_Join v8 (⟨#[44]⟩ : ByteArray)).bind (fun y9 => some y9.1)
theorem U_impl_RowText (a0 : List Int) : Le ((bif ((a0.length : Int) == 0) then
 some (⟨#[40, 41]⟩ : ByteArray)
 else joinK (loopF (fun f s => L_impl_RowTextx0 a0 f s.1 s.2) ([], 0))
 (fun s => J_impl_RowTextx0 s))) (F_impl_RowText a0) := callL_le (tt := tt) (FT := FT) (SP := SP) (j := 31) rfl (by kernel_rfl)
theorem U_impl_number (a0 : Int) : Le ((F_strconv_Itoa a0).bind (fun y1 => some y1)) (F_impl_number a0) := callL_le (tt := tt) (FT := FT) (SP := SP) (j := 32) rfl (by kernel_rfl)
theorem U_strconv_Itoa (a0 : Int) : Le (itoaF a0) (F_strconv_Itoa a0) := callL_sp (tt := tt) (FT := FT) (SP := SP) (j := 33) (v := (show InVals (FT 33) from ((a0, ()), (())))) (f := fun v => itoaF v.1.1) rfl
theorem U_strings_Join (a0 : List ByteArray) (a1 : ByteArray) : Le (joinF a0 a1) (F_strings_Join a0 a1) := callL_sp (tt := tt) (FT := FT) (SP := SP) (j := 34) (v := (show InVals (FT 34) from ((a0, a1, ()), (())))) (f := fun v => joinF v.1.1 v.1.2.1) rfl
noncomputable def L_laws_eqTableSx0 (a0 : List STable) (a1 : List STable) (f0 : Yt6 → Option Yt4) (v1 : Bool) (v2 : Int) : Option Yt4 :=
 (bif (decide (v2 < (a0.length : Int))) then
 (ix a0 v2).bind (fun z3 => (ix a1 v2).bind (fun z4 => (F_laws_eqTable z3 z4).bind (fun y5 => (bif (!y5) then
 some (.ret false)
 else f0 (v1, (IntKind.i64.wrap (v2 + 1)))))))
 else some (.go v1))
@[simp] noncomputable def J_laws_eqTableSx0 (v6 : Bool) : Option Bool :=
 some true
theorem U_laws_eqTableS (a0 : List STable) (a1 : List STable) : Le ((bif ((a0.length : Int) != (a1.length : Int)) then
 some false
 else joinK (loopF (fun f s => L_laws_eqTableSx0 a0 a1 f s.1 s.2) (false, 0))
 (fun s => J_laws_eqTableSx0 s))) (F_laws_eqTableS a0 a1) := callL_le (tt := tt) (FT := FT) (SP := SP) (j := 35) rfl (by kernel_rfl)
theorem U_laws_eqTable (a0 : STable) (a1 : STable) : Le ((bif (!(a0.1.toList == a1.1.toList)) then
 some false
 else (bif (a0.2.1 != a1.2.1) then
 some false
 else some true))) (F_laws_eqTable a0 a1) := callL_le (tt := tt) (FT := FT) (SP := SP) (j := 36) rfl (by kernel_rfl)
noncomputable def L_laws_eqIntSSSx0 (a0 : List Yt3) (a1 : List Yt3) (f0 : Yt6 → Option Yt4) (v1 : Bool) (v2 : Int) : Option Yt4 :=
 (bif (decide (v2 < (a0.length : Int))) then
 (ix a0 v2).bind (fun z3 => (ix a1 v2).bind (fun z4 => (F_laws_eqIntSS z3 z4).bind (fun y5 => (bif (!y5) then
 some (.ret false)
 else f0 (v1, (IntKind.i64.wrap (v2 + 1)))))))
 else some (.go v1))
@[simp] noncomputable def J_laws_eqIntSSSx0 (v6 : Bool) : Option Bool :=
 some true
theorem U_laws_eqIntSSS (a0 : List Yt3) (a1 : List Yt3) : Le ((bif ((a0.length : Int) != (a1.length : Int)) then
 some false
 else joinK (loopF (fun f s => L_laws_eqIntSSSx0 a0 a1 f s.1 s.2) (false, 0))
 (fun s => J_laws_eqIntSSSx0 s))) (F_laws_eqIntSSS a0 a1) := callL_le (tt := tt) (FT := FT) (SP := SP) (j := 37) rfl (by kernel_rfl)
noncomputable def L_laws_eqIntSSx0 (a0 : List Yt7) (a1 : List Yt7) (f0 : Yt6 → Option Yt4) (v1 : Bool) (v2 : Int) : Option Yt4 :=
 (bif (decide (v2 < (a0.length : Int))) then
 (ix a0 v2).bind (fun z3 => (ix a1 v2).bind (fun z4 => (F_laws_eqIntS z3 z4).bind (fun y5 => (bif (!y5) then
 some (.ret false)
 else f0 (v1, (IntKind.i64.wrap (v2 + 1)))))))
 else some (.go v1))
@[simp] noncomputable def J_laws_eqIntSSx0 (v6 : Bool) : Option Bool :=
 some true
theorem U_laws_eqIntSS (a0 : List Yt7) (a1 : List Yt7) : Le ((bif ((a0.length : Int) != (a1.length : Int)) then
 some false
 else joinK (loopF (fun f s => L_laws_eqIntSSx0 a0 a1 f s.1 s.2) (false, 0))
 (fun s => J_laws_eqIntSSx0 s))) (F_laws_eqIntSS a0 a1) := callL_le (tt := tt) (FT := FT) (SP := SP) (j := 38) rfl (by kernel_rfl)
noncomputable def L_laws_eqIntSx0 (a0 : List Int) (a1 : List Int) (f0 : Yt6 → Option Yt4) (v1 : Bool) (v2 : Int) : Option Yt4 :=
 (bif (decide (v2 < (a0.length : Int))) then
 (ix a0 v2).bind (fun z3 => (ix a1 v2).bind (fun z4 => (bif (z3 != z4) then
 some (.ret false)
 else f0 (v1, (IntKind.i64.wrap (v2 + 1))))))
 else some (.go v1))
@[simp] noncomputable def J_laws_eqIntSx0 (v5 : Bool) : Option Bool :=
 some true
theorem U_laws_eqIntS (a0 : List Int) (a1 : List Int) : Le ((bif ((a0.length : Int) != (a1.length : Int)) then
 some false
 else joinK (loopF (fun f s => L_laws_eqIntSx0 a0 a1 f s.1 s.2) (false, 0))
 (fun s => J_laws_eqIntSx0 s))) (F_laws_eqIntS a0 a1) := callL_le (tt := tt) (FT := FT) (SP := SP) (j := 39) rfl (by kernel_rfl)
end Go.Proofs.YtlebkomgiibknaaDoorX
