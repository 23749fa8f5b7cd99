/- The contracts of the functions of Go's library that are met, laid at this program by the kit's tools; and each computes its Lean function. -/
import Derived.Shelf.LaysM
import Derived.Shelf.Small.Strs
import Derived.Shelf.Strconv.Atoi
import Derived.Shelf.Strconv.Itoa3
import Derived.Shelf.Strings.OnBuilder
import Derived.Lib.SmallJoins
import Derived.Test.YteipbimepilcfaaGreatDoorProg
import Derived.Test.YteipbimepilcfaaGreatDoorWRulesMod
namespace Go.Proofs
open Go.Shelf
def Tryz.lays156_ren : Go.Shelf.Ren := ⟨fun | 156 => 88 | 165 => 151 | 166 => 51 | 169 => 52 | 240 => 102 | 241 => 196 | 276 => 159 | 277 => 216 | n => n, fun | 31 => 68 | 9 => 9 | 3 => 3 | 4 => 4 | 0 => 0 | 20 => 20 | 72 => 83 | 76 => 86 | 70 => 81 | 37 => 22 | 75 => 85 | 127 => 132 | 164 => 172 | 5 => 5 | 80 => 88 | n => n, fun | n => n⟩
theorem Tryz.lays156 : Go.Proofs.Lays.n156 Tryz.prog Tryz.lays156_ren := {
  mixed := by kernel_rfl
  f156 := Tryz.func88.trans (congrArg some (by kernel_rfl))
  f165 := Tryz.func151.trans (congrArg some (by kernel_rfl))
  f166 := Tryz.func51.trans (congrArg some (by kernel_rfl))
  f169 := Tryz.func52.trans (congrArg some (by kernel_rfl))
  f240 := Tryz.func102.trans (congrArg some (by kernel_rfl))
  f241 := Tryz.func196.trans (congrArg some (by kernel_rfl))
  f276 := Tryz.func159.trans (congrArg some (by kernel_rfl))
  f277 := Tryz.func216.trans (congrArg some (by kernel_rfl))
  t0 := Tryz.underlying0
  a0 := Tryz.isAgg0
  z0 := Tryz.sizeOf0
  v0 := Tryz.zeroValue0
  t3 := Tryz.underlying3
  a3 := Tryz.isAgg3
  z3 := Tryz.sizeOf3
  v3 := Tryz.zeroValue3
  t4 := Tryz.underlying4
  a4 := Tryz.isAgg4
  z4 := Tryz.sizeOf4
  v4 := Tryz.zeroValue4
  t9 := Tryz.underlying9
  a9 := Tryz.isAgg9
  z9 := Tryz.sizeOf9
  v9 := Tryz.zeroValue9
  t20 := Tryz.underlying20
  a20 := Tryz.isAgg20
  z20 := Tryz.sizeOf20
  v20 := Tryz.zeroValue20
  t31 := Tryz.underlying68
  a31 := Tryz.isAgg68
  z31 := Tryz.sizeOf68
  v31 := Tryz.zeroValue68
  t37 := Tryz.underlying22
  a37 := Tryz.isAgg22
  z37 := Tryz.sizeOf22
  v37 := Tryz.zeroValue22
  t70 := Tryz.underlying81
  a70 := Tryz.isAgg81
  z70 := Tryz.sizeOf81
  v70 := Tryz.zeroValue81
  t72 := Tryz.underlying83
  a72 := Tryz.isAgg83
  z72 := Tryz.sizeOf83
  v72 := Tryz.zeroValue83
  t75 := Tryz.underlying85
  a75 := Tryz.isAgg85
  z75 := Tryz.sizeOf85
  v75 := Tryz.zeroValue85
  t76 := Tryz.underlying86
  a76 := Tryz.isAgg86
  z76 := Tryz.sizeOf86
  v76 := Tryz.zeroValue86
  t127 := Tryz.underlying132
  a127 := Tryz.isAgg132
  z127 := Tryz.sizeOf132
  v127 := Tryz.zeroValue132
  t164 := Tryz.underlying172
  a164 := Tryz.isAgg172
  z164 := Tryz.sizeOf172
  v164 := Tryz.zeroValue172 }
theorem Tryz.Builder_Extra_156 : Builder.Extra Tryz.prog Tryz.lays156_ren := {
  sizeBuilder := by kernel_rfl
  liesBuilder := by kernel_rfl
  t5 := Tryz.underlying5
  a5 := Tryz.isAgg5
  z5 := Tryz.sizeOf5
  v5 := Tryz.zeroValue5
  infoByte := by kernel_rfl
  cellsByte := by kernel_rfl
  sizeByte := by kernel_rfl
  neB5 := by decide }
def Tryz.laysM171_ren : Go.Shelf.Ren := ⟨fun | 171 => 87 | 243 => 150 | 246 => 195 | 283 => 212 | 284 => 213 | 285 => 214 | 286 => 215 | 129 => 227 | 317 => 226 | 318 => 228 | 319 => 229 | 320 => 230 | 337 => 236 | 338 => 237 | n => n, fun | 3 => 3 | 9 => 9 | 2 => 2 | 4 => 4 | 171 => 199 | 0 => 0 | 53 => 200 | 37 => 22 | 5 => 5 | 173 => 203 | 212 => 215 | 51 => 216 | 20 => 20 | 213 => 217 | 46 => 177 | 232 => 233 | 233 => 234 | n => n, fun | 17 => 1 | 18 => 4 | 19 => 5 | n => n⟩
theorem Tryz.laysM171 : Go.Proofs.LaysM.n171 Tryz.prog Tryz.laysM171_ren := {
  mixed := by kernel_rfl
  f129 := Tryz.func227.trans (congrArg some (by kernel_rfl))
  f171 := Tryz.func87.trans (congrArg some (by kernel_rfl))
  f243 := Tryz.func150.trans (congrArg some (by kernel_rfl))
  f246 := Tryz.func195.trans (congrArg some (by kernel_rfl))
  f283 := Tryz.func212.trans (congrArg some (by kernel_rfl))
  f284 := Tryz.func213.trans (congrArg some (by kernel_rfl))
  f285 := Tryz.func214.trans (congrArg some (by kernel_rfl))
  f286 := Tryz.func215.trans (congrArg some (by kernel_rfl))
  f317 := Tryz.func226.trans (congrArg some (by kernel_rfl))
  f318 := Tryz.func228.trans (congrArg some (by kernel_rfl))
  f319 := Tryz.func229.trans (congrArg some (by kernel_rfl))
  f320 := Tryz.func230.trans (congrArg some (by kernel_rfl))
  f337 := Tryz.func236.trans (congrArg some (by kernel_rfl))
  f338 := Tryz.func237.trans (congrArg some (by kernel_rfl))
  t0 := Tryz.underlying0
  a0 := Tryz.isAgg0
  z0 := Tryz.sizeOf0
  v0 := Tryz.zeroValue0
  t2 := Tryz.underlying2
  a2 := Tryz.isAgg2
  z2 := Tryz.sizeOf2
  v2 := Tryz.zeroValue2
  t3 := Tryz.underlying3
  a3 := Tryz.isAgg3
  z3 := Tryz.sizeOf3
  v3 := Tryz.zeroValue3
  t4 := Tryz.underlying4
  a4 := Tryz.isAgg4
  z4 := Tryz.sizeOf4
  v4 := Tryz.zeroValue4
  t5 := Tryz.underlying5
  a5 := Tryz.isAgg5
  z5 := Tryz.sizeOf5
  v5 := Tryz.zeroValue5
  t9 := Tryz.underlying9
  a9 := Tryz.isAgg9
  z9 := Tryz.sizeOf9
  v9 := Tryz.zeroValue9
  t20 := Tryz.underlying20
  a20 := Tryz.isAgg20
  z20 := Tryz.sizeOf20
  v20 := Tryz.zeroValue20
  t37 := Tryz.underlying22
  a37 := Tryz.isAgg22
  z37 := Tryz.sizeOf22
  v37 := Tryz.zeroValue22
  t46 := Tryz.underlying177
  a46 := Tryz.isAgg177
  z46 := Tryz.sizeOf177
  v46 := Tryz.zeroValue177
  t51 := Tryz.underlying216
  a51 := Tryz.isAgg216
  z51 := Tryz.sizeOf216
  v51 := Tryz.zeroValue216
  t53 := Tryz.underlying200
  a53 := Tryz.isAgg200
  z53 := Tryz.sizeOf200
  v53 := Tryz.zeroValue200
  t171 := Tryz.underlying199
  a171 := Tryz.isAgg199
  z171 := Tryz.sizeOf199
  v171 := Tryz.zeroValue199
  t173 := Tryz.underlying203
  a173 := Tryz.isAgg203
  z173 := Tryz.sizeOf203
  v173 := Tryz.zeroValue203
  t212 := Tryz.underlying215
  a212 := Tryz.isAgg215
  z212 := Tryz.sizeOf215
  v212 := Tryz.zeroValue215
  t213 := Tryz.underlying217
  a213 := Tryz.isAgg217
  z213 := Tryz.sizeOf217
  t232 := Tryz.underlying233
  a232 := Tryz.isAgg233
  z232 := Tryz.sizeOf233
  v232 := Tryz.zeroValue233
  t233 := Tryz.underlying234
  a233 := Tryz.isAgg234
  z233 := Tryz.sizeOf234
  v233 := Tryz.zeroValue234
  g17 := by kernel_rfl
  g18 := by kernel_rfl
  g19 := by kernel_rfl
  i0 := by kernel_rfl
  i2 := by kernel_rfl
  i3 := by kernel_rfl
  i4 := by kernel_rfl
  i5 := by kernel_rfl
  i9 := by kernel_rfl
  i20 := by kernel_rfl
  i37 := by kernel_rfl
  i46 := by kernel_rfl
  i51 := by kernel_rfl
  i53 := by kernel_rfl
  i171 := by kernel_rfl
  i173 := by kernel_rfl
  i212 := by kernel_rfl
  i232 := by kernel_rfl
  i233 := by kernel_rfl
  m17 := by kernel_rfl
  m18 := by kernel_rfl
  m19 := by kernel_rfl }
def Tryz.lays172_ren : Go.Shelf.Ren := ⟨fun | 172 => 161 | 244 => 202 | 245 => 203 | 247 => 218 | 279 => 219 | 280 => 220 | 281 => 221 | 282 => 222 | 287 => 231 | 316 => 232 | 171 => 87 | 205 => 233 | 321 => 238 | 322 => 239 | 243 => 150 | 246 => 195 | 283 => 212 | 284 => 213 | 285 => 214 | 286 => 215 | 129 => 227 | 317 => 226 | 318 => 228 | 319 => 229 | 320 => 230 | 337 => 236 | 338 => 237 | n => n, fun | 9 => 9 | 3 => 3 | 75 => 85 | 76 => 86 | 4 => 4 | 5 => 5 | 167 => 206 | 37 => 22 | 0 => 0 | 85 => 207 | 2 => 2 | 168 => 209 | 53 => 200 | 175 => 220 | 46 => 177 | 210 => 224 | 127 => 132 | 145 => 232 | 143 => 230 | 21 => 21 | 171 => 199 | 173 => 203 | 212 => 215 | 51 => 216 | 20 => 20 | 213 => 217 | 232 => 233 | 233 => 234 | 80 => 88 | n => n, fun | 15 => 2 | 16 => 3 | 17 => 1 | 18 => 4 | 19 => 5 | n => n⟩
theorem Tryz.lays172 : Go.Proofs.Lays.n172 Tryz.prog Tryz.lays172_ren := {
  mixed := by kernel_rfl
  f129 := Tryz.func227.trans (congrArg some (by kernel_rfl))
  f171 := Tryz.func87.trans (congrArg some (by kernel_rfl))
  f172 := Tryz.func161.trans (congrArg some (by kernel_rfl))
  f205 := Tryz.func233.trans (congrArg some (by kernel_rfl))
  f243 := Tryz.func150.trans (congrArg some (by kernel_rfl))
  f244 := Tryz.func202.trans (congrArg some (by kernel_rfl))
  f245 := Tryz.func203.trans (congrArg some (by kernel_rfl))
  f246 := Tryz.func195.trans (congrArg some (by kernel_rfl))
  f247 := Tryz.func218.trans (congrArg some (by kernel_rfl))
  f279 := Tryz.func219.trans (congrArg some (by kernel_rfl))
  f280 := Tryz.func220.trans (congrArg some (by kernel_rfl))
  f281 := Tryz.func221.trans (congrArg some (by kernel_rfl))
  f282 := Tryz.func222.trans (congrArg some (by kernel_rfl))
  f283 := Tryz.func212.trans (congrArg some (by kernel_rfl))
  f284 := Tryz.func213.trans (congrArg some (by kernel_rfl))
  f285 := Tryz.func214.trans (congrArg some (by kernel_rfl))
  f286 := Tryz.func215.trans (congrArg some (by kernel_rfl))
  f287 := Tryz.func231.trans (congrArg some (by kernel_rfl))
  f316 := Tryz.func232.trans (congrArg some (by kernel_rfl))
  f317 := Tryz.func226.trans (congrArg some (by kernel_rfl))
  f318 := Tryz.func228.trans (congrArg some (by kernel_rfl))
  f319 := Tryz.func229.trans (congrArg some (by kernel_rfl))
  f320 := Tryz.func230.trans (congrArg some (by kernel_rfl))
  f321 := Tryz.func238.trans (congrArg some (by kernel_rfl))
  f322 := Tryz.func239.trans (congrArg some (by kernel_rfl))
  f337 := Tryz.func236.trans (congrArg some (by kernel_rfl))
  f338 := Tryz.func237.trans (congrArg some (by kernel_rfl))
  t0 := Tryz.underlying0
  a0 := Tryz.isAgg0
  z0 := Tryz.sizeOf0
  v0 := Tryz.zeroValue0
  t2 := Tryz.underlying2
  a2 := Tryz.isAgg2
  z2 := Tryz.sizeOf2
  v2 := Tryz.zeroValue2
  t3 := Tryz.underlying3
  a3 := Tryz.isAgg3
  z3 := Tryz.sizeOf3
  v3 := Tryz.zeroValue3
  t4 := Tryz.underlying4
  a4 := Tryz.isAgg4
  z4 := Tryz.sizeOf4
  v4 := Tryz.zeroValue4
  t5 := Tryz.underlying5
  a5 := Tryz.isAgg5
  z5 := Tryz.sizeOf5
  v5 := Tryz.zeroValue5
  t9 := Tryz.underlying9
  a9 := Tryz.isAgg9
  z9 := Tryz.sizeOf9
  v9 := Tryz.zeroValue9
  t20 := Tryz.underlying20
  a20 := Tryz.isAgg20
  z20 := Tryz.sizeOf20
  v20 := Tryz.zeroValue20
  t21 := Tryz.underlying21
  a21 := Tryz.isAgg21
  z21 := Tryz.sizeOf21
  v21 := Tryz.zeroValue21
  t37 := Tryz.underlying22
  a37 := Tryz.isAgg22
  z37 := Tryz.sizeOf22
  v37 := Tryz.zeroValue22
  t46 := Tryz.underlying177
  a46 := Tryz.isAgg177
  z46 := Tryz.sizeOf177
  v46 := Tryz.zeroValue177
  t51 := Tryz.underlying216
  a51 := Tryz.isAgg216
  z51 := Tryz.sizeOf216
  v51 := Tryz.zeroValue216
  t53 := Tryz.underlying200
  a53 := Tryz.isAgg200
  z53 := Tryz.sizeOf200
  v53 := Tryz.zeroValue200
  t75 := Tryz.underlying85
  a75 := Tryz.isAgg85
  z75 := Tryz.sizeOf85
  v75 := Tryz.zeroValue85
  t76 := Tryz.underlying86
  a76 := Tryz.isAgg86
  z76 := Tryz.sizeOf86
  v76 := Tryz.zeroValue86
  t85 := Tryz.underlying207
  a85 := Tryz.isAgg207
  z85 := Tryz.sizeOf207
  v85 := Tryz.zeroValue207
  t127 := Tryz.underlying132
  a127 := Tryz.isAgg132
  z127 := Tryz.sizeOf132
  v127 := Tryz.zeroValue132
  t143 := Tryz.underlying230
  a143 := Tryz.isAgg230
  z143 := Tryz.sizeOf230
  v143 := Tryz.zeroValue230
  t145 := Tryz.underlying232
  a145 := Tryz.isAgg232
  z145 := Tryz.sizeOf232
  v145 := Tryz.zeroValue232
  t167 := Tryz.underlying206
  a167 := Tryz.isAgg206
  z167 := Tryz.sizeOf206
  v167 := Tryz.zeroValue206
  t168 := Tryz.underlying209
  a168 := Tryz.isAgg209
  z168 := Tryz.sizeOf209
  v168 := Tryz.zeroValue209
  t171 := Tryz.underlying199
  a171 := Tryz.isAgg199
  z171 := Tryz.sizeOf199
  v171 := Tryz.zeroValue199
  t173 := Tryz.underlying203
  a173 := Tryz.isAgg203
  z173 := Tryz.sizeOf203
  v173 := Tryz.zeroValue203
  t175 := Tryz.underlying220
  a175 := Tryz.isAgg220
  z175 := Tryz.sizeOf220
  v175 := Tryz.zeroValue220
  t210 := Tryz.underlying224
  a210 := Tryz.isAgg224
  z210 := Tryz.sizeOf224
  v210 := Tryz.zeroValue224
  t212 := Tryz.underlying215
  a212 := Tryz.isAgg215
  z212 := Tryz.sizeOf215
  v212 := Tryz.zeroValue215
  t213 := Tryz.underlying217
  a213 := Tryz.isAgg217
  z213 := Tryz.sizeOf217
  t232 := Tryz.underlying233
  a232 := Tryz.isAgg233
  z232 := Tryz.sizeOf233
  v232 := Tryz.zeroValue233
  t233 := Tryz.underlying234
  a233 := Tryz.isAgg234
  z233 := Tryz.sizeOf234
  v233 := Tryz.zeroValue234
  g15 := by kernel_rfl
  g16 := by kernel_rfl
  g17 := by kernel_rfl
  g18 := by kernel_rfl
  g19 := by kernel_rfl }
def Tryz.lays137_ren : Go.Shelf.Ren := ⟨fun | 137 => 109 | 217 => 164 | 266 => 204 | n => n, fun | 9 => 9 | 5 => 5 | 3 => 3 | n => n, fun | n => n⟩
theorem Tryz.lays137 : Go.Proofs.Lays.n137 Tryz.prog Tryz.lays137_ren := {
  mixed := by kernel_rfl
  f137 := Tryz.func109.trans (congrArg some (by kernel_rfl))
  f217 := Tryz.func164.trans (congrArg some (by kernel_rfl))
  f266 := Tryz.func204.trans (congrArg some (by kernel_rfl))
  t3 := Tryz.underlying3
  a3 := Tryz.isAgg3
  z3 := Tryz.sizeOf3
  v3 := Tryz.zeroValue3
  t5 := Tryz.underlying5
  a5 := Tryz.isAgg5
  z5 := Tryz.sizeOf5
  v5 := Tryz.zeroValue5
  t9 := Tryz.underlying9
  a9 := Tryz.isAgg9
  z9 := Tryz.sizeOf9
  v9 := Tryz.zeroValue9 }
end Go.Proofs
namespace Go.Proofs.YteipbimepilcfaaGreatDoor
open Eng
open Go.RowKit (Below)
open Go.Shelf
set_option linter.unusedVariables false
theorem in_psi {Ψ Φ : Hp} {B : List Nat} (w0 : Base Ψ Φ B) : In Ψ w0.w := fun k o h => w0.fro k o (w0.off k o h).1
theorem below_grw (w : World) (k : Nat) (os : Array Obj) : Below w.heap.size w (Go.Sort.grow (w.drewN k) os) :=
  ⟨rfl, rfl, rfl, (by show w.heap.size ≤ (w.heap ++ os).size; simp), fun k' hk => (by show (w.heap ++ os)[k']? = w.heap[k']?; exact Array.getElem?_append_left hk)⟩
theorem tab_is {w : World} {Φ : Hp} (hΦ : In Φ w) (hT : Tab Φ) {name : String} (hg : Tryz.prog.globalNamed name = some 1) : Go.Lib.TabIs Tryz.prog w name .u64 Go.Lib.pow10Tab := by
  obtain ⟨T, fz, h⟩ := hT
  have h1 := hΦ _ _ h
  unfold Go.Lib.TabIs World.var?
  rw [hg, Option.bind_some, h1]
theorem m_strconv_Itoa_ok {Ψ Φ : Hp} (N : Nat) (w0 : Base Ψ Φ []) (p0 : Int) (hT : Tab Ψ) {r : ByteArray} (h : m_strconv_Itoa N p0 = some r) :
    Calls Tryz.prog 87 [.int .i64 p0].toArray w0.w (Post (.string r) w0.w) := by
  unfold m_strconv_Itoa at h
  split at h
  · rename_i hc
    cases h
    exact (Any.strconv_Itoa Tryz.laysM171 p0 hc.1 hc.2 w0.w (tab_is (in_psi w0) hT (by kernel_rfl))).mono fun e w' ⟨he, k, os, hw⟩ => ⟨he, by rw [hw]; exact below_grw w0.w k os⟩
  · cases h
theorem m_strconv_Atoi_ok {Ψ Φ : Hp} (N : Nat) (w0 : Base Ψ Φ []) (p0 : ByteArray) {r : Int} (h : m_strconv_Atoi N p0 = some r) :
    Calls Tryz.prog 161 [.string p0].toArray w0.w (Post (.tuple #[.int .i64 r, .nilIface]) w0.w) := by
  unfold m_strconv_Atoi at h
  split at h
  · rename_i hc
    exact (Any.strconv_Atoi Tryz.lays172 p0 r hc h w0.w).mono fun e w' ⟨he, t, hw⟩ => ⟨he, by rw [hw]; exact Go.Joins.below_bytesWorld _ _ _ _ (Nat.le_refl _)⟩
  · cases h
theorem m_strings_IndexByte_ok {Ψ Φ : Hp} (N : Nat) (w0 : Base Ψ Φ []) (p0 : ByteArray) (p1 : Int) {r : Int} (h : m_strings_IndexByte N p0 p1 = some r) :
    Calls Tryz.prog 109 [.string p0, .int .u8 p1].toArray w0.w (Post (.int .i64 r) w0.w) := by
  cases h
  exact (Any.strings_IndexByte Tryz.lays137 p0 p1 w0.w).mono fun e w' ⟨he, hw⟩ => ⟨he, by rw [hw]; exact Below.refl _ _⟩
theorem m_strings_Join_ok {Ψ Φ : Hp} {pv0 : Value} {pG0 : List Nat} (N : Nat) (w0 : Base Ψ Φ []) (p0 : List ByteArray) (p1 : ByteArray) (ph0 : RSl RS 1 Ψ pG0 pv0 p0) {r : ByteArray} (h : m_strings_Join N p0 p1 = some r) :
    Calls Tryz.prog 88 [pv0, .string p1].toArray w0.w (Post (.string r) w0.w) := by
  unfold m_strings_Join at h
  split at h
  · rename_i hc
    cases h
    have hΦ := in_psi w0
    by_cases he : p0 = []
    · subst he
      obtain ⟨a, cap, rfl, -⟩ := ph0.form
      exact (Any.strings_Join_none Tryz.lays156 Tryz.Builder_Extra_156 a cap p1 w0.w).mono fun e w' ⟨h1, h2⟩ => ⟨by rw [h1]; rfl, by rw [h2]; exact Below.refl _ _⟩
    · obtain ⟨cap, hv⟩ := ph0.addr he
      obtain ⟨a', cap', hv', hle⟩ := ph0.form
      have hcap : p0.length ≤ cap := by
        rw [hv] at hv'
        injection hv' with _ _ h3; omega
      have hel : ∀ (j : Nat) x, p0[j]? = some x → w0.w.cell? ⟨sb pv0, so pv0 + j, none⟩ = some (.string x) ∧ sb pv0 < w0.w.heap.size := by
        intro j x hx
        obtain ⟨cs, G, hl, hr, -, -, hR⟩ := ph0.el hx
        obtain ⟨rfl, -⟩ := hR
        rw [Nat.mul_one] at hr
        obtain ⟨ob, hob⟩ := hr.known
        exact ⟨cell_of_rangeAt (hr.rangeAt hΦ), hΦ.lt hob⟩
      have h0 : sb pv0 < w0.w.heap.size := by
        cases p0 with
        | nil => exact absurd rfl he
        | cons x t => exact (hel 0 x rfl).2
      rw [hv]
      exact (Any.strings_Join Tryz.lays156 Tryz.Builder_Extra_156 (sb pv0) (so pv0) cap p0 p1 w0.w (fun j x hx => (hel j x hx).1) h0 hc.1 hcap hc.2).mono fun e w' ⟨h1, h2⟩ => ⟨h1, h2⟩
  · cases h
theorem bld_write {Ψ0 H0 : Hp} {B0 : List Nat} {w0 : Base Ψ0 H0 B0} {Φ : Hp} {O : Vars} {b : Nat} {s t u : ByteArray} {w : World} (hw : SB w0 Φ O 83 5 b s w) (hu : wrt s t = some u) :
    Calls Tryz.prog 51 [.pointer (some ⟨b, 0, none⟩), .string t].toArray w fun e w' => e = .returned (.tuple #[.int .i64 t.size, .nilIface]) ∧ SB w0 Φ O 83 5 b u w' := by
  have hl := (wrt_some hu).1
  have hs : (Go.Lib.byteCells s.data.toList).length = s.size := by unfold Go.Lib.byteCells; rw [List.length_map]; rfl
  exact (Any.Builder_WriteString ({ Tryz.lays156 with } : Go.Proofs.Lays.n166 _ Tryz.lays156_ren) Tryz.Builder_Extra_156 b b _ t w hw.bl (by rw [hs]; exact hl) hw.lt).mono fun e w' ⟨h1, h2, h3⟩ => ⟨h1, hw.wrote hu h2 h3⟩
theorem bld_string {Ψ0 H0 : Hp} {B0 : List Nat} {w0 : Base Ψ0 H0 B0} {Φ : Hp} {O : Vars} {b : Nat} {s : ByteArray} {w : World} (hw : SB w0 Φ O 83 5 b s w) :
    Calls Tryz.prog 52 [.pointer (some ⟨b, 0, none⟩)].toArray w fun e w' => e = .returned (.string s) ∧ SE w0 w' := by
  exact (Any.Builder_String_any ({ Tryz.lays156 with } : Go.Proofs.Lays.n169 _ Tryz.lays156_ren) Tryz.Builder_Extra_156 b b s.data.toList w hw.bl hw.lt).mono fun e w' ⟨h1, h2⟩ => ⟨h1, hw.se h2⟩
end Go.Proofs.YteipbimepilcfaaGreatDoor
