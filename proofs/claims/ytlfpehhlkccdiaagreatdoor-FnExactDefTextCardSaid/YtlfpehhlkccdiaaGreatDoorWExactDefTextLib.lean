/- The contracts of the functions of Go's library that are met, laid at this program by the kit's tools; and each computes its Lean function. -/
import Derived.Shelf.LaysM
import Derived.Shelf.Strconv.Itoa3
import Derived.Shelf.Strings.OnBuilder
import Derived.Test.YtlfpehhlkccdiaaGreatDoorProg
import Derived.Test.YtlfpehhlkccdiaaGreatDoorWExactDefTextMod
namespace Go.Proofs
open Go.Shelf
def Tryz.lays156_ren : Go.Shelf.Ren := ⟨fun | 156 => 65 | 165 => 98 | 166 => 32 | 169 => 33 | 240 => 71 | 241 => 120 | 276 => 104 | 277 => 133 | n => n, fun | 31 => 86 | 9 => 9 | 3 => 3 | 4 => 4 | 0 => 0 | 20 => 20 | 72 => 64 | 76 => 67 | 70 => 61 | 37 => 62 | 75 => 66 | 127 => 120 | 164 => 143 | 5 => 5 | 80 => 69 | n => n, fun | n => n⟩
theorem Tryz.lays156 : Go.Proofs.Lays.n156 Tryz.prog Tryz.lays156_ren := {
  mixed := by kernel_rfl
  f156 := Tryz.func65.trans (congrArg some (by kernel_rfl))
  f165 := Tryz.func98.trans (congrArg some (by kernel_rfl))
  f166 := Tryz.func32.trans (congrArg some (by kernel_rfl))
  f169 := Tryz.func33.trans (congrArg some (by kernel_rfl))
  f240 := Tryz.func71.trans (congrArg some (by kernel_rfl))
  f241 := Tryz.func120.trans (congrArg some (by kernel_rfl))
  f276 := Tryz.func104.trans (congrArg some (by kernel_rfl))
  f277 := Tryz.func133.trans (congrArg some (by kernel_rfl))
  t0 := Tryz.underlying0
  a0 := Tryz.isAgg0
  z0 := Tryz.sizeOf0
  v0 := Tryz.zeroValue0
  t3 := Tryz.underlying3
  a3 := Tryz.isAgg3
  z3 := Tryz.sizeOf3
  v3 := Tryz.zeroValue3
  t4 := Tryz.underlying4
  a4 := Tryz.isAgg4
  z4 := Tryz.sizeOf4
  v4 := Tryz.zeroValue4
  t9 := Tryz.underlying9
  a9 := Tryz.isAgg9
  z9 := Tryz.sizeOf9
  v9 := Tryz.zeroValue9
  t20 := Tryz.underlying20
  a20 := Tryz.isAgg20
  z20 := Tryz.sizeOf20
  v20 := Tryz.zeroValue20
  t31 := Tryz.underlying86
  a31 := Tryz.isAgg86
  z31 := Tryz.sizeOf86
  v31 := Tryz.zeroValue86
  t37 := Tryz.underlying62
  a37 := Tryz.isAgg62
  z37 := Tryz.sizeOf62
  v37 := Tryz.zeroValue62
  t70 := Tryz.underlying61
  a70 := Tryz.isAgg61
  z70 := Tryz.sizeOf61
  v70 := Tryz.zeroValue61
  t72 := Tryz.underlying64
  a72 := Tryz.isAgg64
  z72 := Tryz.sizeOf64
  v72 := Tryz.zeroValue64
  t75 := Tryz.underlying66
  a75 := Tryz.isAgg66
  z75 := Tryz.sizeOf66
  v75 := Tryz.zeroValue66
  t76 := Tryz.underlying67
  a76 := Tryz.isAgg67
  z76 := Tryz.sizeOf67
  v76 := Tryz.zeroValue67
  t127 := Tryz.underlying120
  a127 := Tryz.isAgg120
  z127 := Tryz.sizeOf120
  v127 := Tryz.zeroValue120
  t164 := Tryz.underlying143
  a164 := Tryz.isAgg143
  z164 := Tryz.sizeOf143
  v164 := Tryz.zeroValue143 }
theorem Tryz.Builder_Extra_156 : Builder.Extra Tryz.prog Tryz.lays156_ren := {
  sizeBuilder := by kernel_rfl
  liesBuilder := by kernel_rfl
  t5 := Tryz.underlying5
  a5 := Tryz.isAgg5
  z5 := Tryz.sizeOf5
  v5 := Tryz.zeroValue5
  infoByte := by kernel_rfl
  cellsByte := by kernel_rfl
  sizeByte := by kernel_rfl
  neB5 := by decide }
def Tryz.laysM171_ren : Go.Shelf.Ren := ⟨fun | 171 => 64 | 243 => 97 | 246 => 119 | 283 => 129 | 284 => 130 | 285 => 131 | 286 => 132 | 129 => 139 | 317 => 138 | 318 => 140 | 319 => 141 | 320 => 142 | 337 => 143 | 338 => 144 | n => n, fun | 3 => 3 | 9 => 9 | 2 => 2 | 4 => 4 | 171 => 160 | 0 => 0 | 53 => 161 | 37 => 62 | 5 => 5 | 173 => 164 | 212 => 169 | 51 => 170 | 20 => 20 | 213 => 171 | 46 => 173 | 232 => 176 | 233 => 177 | n => n, fun | 17 => 0 | 18 => 2 | 19 => 3 | n => n⟩
theorem Tryz.laysM171 : Go.Proofs.LaysM.n171 Tryz.prog Tryz.laysM171_ren := {
  mixed := by kernel_rfl
  f129 := Tryz.func139.trans (congrArg some (by kernel_rfl))
  f171 := Tryz.func64.trans (congrArg some (by kernel_rfl))
  f243 := Tryz.func97.trans (congrArg some (by kernel_rfl))
  f246 := Tryz.func119.trans (congrArg some (by kernel_rfl))
  f283 := Tryz.func129.trans (congrArg some (by kernel_rfl))
  f284 := Tryz.func130.trans (congrArg some (by kernel_rfl))
  f285 := Tryz.func131.trans (congrArg some (by kernel_rfl))
  f286 := Tryz.func132.trans (congrArg some (by kernel_rfl))
  f317 := Tryz.func138.trans (congrArg some (by kernel_rfl))
  f318 := Tryz.func140.trans (congrArg some (by kernel_rfl))
  f319 := Tryz.func141.trans (congrArg some (by kernel_rfl))
  f320 := Tryz.func142.trans (congrArg some (by kernel_rfl))
  f337 := Tryz.func143.trans (congrArg some (by kernel_rfl))
  f338 := Tryz.func144.trans (congrArg some (by kernel_rfl))
  t0 := Tryz.underlying0
  a0 := Tryz.isAgg0
  z0 := Tryz.sizeOf0
  v0 := Tryz.zeroValue0
  t2 := Tryz.underlying2
  a2 := Tryz.isAgg2
  z2 := Tryz.sizeOf2
  v2 := Tryz.zeroValue2
  t3 := Tryz.underlying3
  a3 := Tryz.isAgg3
  z3 := Tryz.sizeOf3
  v3 := Tryz.zeroValue3
  t4 := Tryz.underlying4
  a4 := Tryz.isAgg4
  z4 := Tryz.sizeOf4
  v4 := Tryz.zeroValue4
  t5 := Tryz.underlying5
  a5 := Tryz.isAgg5
  z5 := Tryz.sizeOf5
  v5 := Tryz.zeroValue5
  t9 := Tryz.underlying9
  a9 := Tryz.isAgg9
  z9 := Tryz.sizeOf9
  v9 := Tryz.zeroValue9
  t20 := Tryz.underlying20
  a20 := Tryz.isAgg20
  z20 := Tryz.sizeOf20
  v20 := Tryz.zeroValue20
  t37 := Tryz.underlying62
  a37 := Tryz.isAgg62
  z37 := Tryz.sizeOf62
  v37 := Tryz.zeroValue62
  t46 := Tryz.underlying173
  a46 := Tryz.isAgg173
  z46 := Tryz.sizeOf173
  v46 := Tryz.zeroValue173
  t51 := Tryz.underlying170
  a51 := Tryz.isAgg170
  z51 := Tryz.sizeOf170
  v51 := Tryz.zeroValue170
  t53 := Tryz.underlying161
  a53 := Tryz.isAgg161
  z53 := Tryz.sizeOf161
  v53 := Tryz.zeroValue161
  t171 := Tryz.underlying160
  a171 := Tryz.isAgg160
  z171 := Tryz.sizeOf160
  v171 := Tryz.zeroValue160
  t173 := Tryz.underlying164
  a173 := Tryz.isAgg164
  z173 := Tryz.sizeOf164
  v173 := Tryz.zeroValue164
  t212 := Tryz.underlying169
  a212 := Tryz.isAgg169
  z212 := Tryz.sizeOf169
  v212 := Tryz.zeroValue169
  t213 := Tryz.underlying171
  a213 := Tryz.isAgg171
  z213 := Tryz.sizeOf171
  t232 := Tryz.underlying176
  a232 := Tryz.isAgg176
  z232 := Tryz.sizeOf176
  v232 := Tryz.zeroValue176
  t233 := Tryz.underlying177
  a233 := Tryz.isAgg177
  z233 := Tryz.sizeOf177
  v233 := Tryz.zeroValue177
  g17 := by kernel_rfl
  g18 := by kernel_rfl
  g19 := by kernel_rfl
  i0 := by kernel_rfl
  i2 := by kernel_rfl
  i3 := by kernel_rfl
  i4 := by kernel_rfl
  i5 := by kernel_rfl
  i9 := by kernel_rfl
  i20 := by kernel_rfl
  i37 := by kernel_rfl
  i46 := by kernel_rfl
  i51 := by kernel_rfl
  i53 := by kernel_rfl
  i171 := by kernel_rfl
  i173 := by kernel_rfl
  i212 := by kernel_rfl
  i232 := by kernel_rfl
  i233 := by kernel_rfl
  m17 := by kernel_rfl
  m18 := by kernel_rfl
  m19 := by kernel_rfl }
end Go.Proofs
namespace Go.Proofs.YtlfpehhlkccdiaaGreatDoor
open Eng
open Go.RowKit (Below)
open Go.Shelf
set_option linter.unusedVariables false
theorem below_grw (w : World) (k : Nat) (os : Array Obj) : Below w.heap.size w (Go.Sort.grow (w.drewN k) os) :=
  ⟨rfl, rfl, rfl, (by show w.heap.size ≤ (w.heap ++ os).size; simp), fun k' hk => (by show (w.heap ++ os)[k']? = w.heap[k']?; exact Array.getElem?_append_left hk)⟩
theorem tab_is {w : World} {Φ : Hp} (hΦ : In Φ w) (hT : Tab Φ) {name : String} (hg : Tryz.prog.globalNamed name = some 0) : Go.Lib.TabIs Tryz.prog w name .u64 Go.Lib.pow10Tab := by
  obtain ⟨T, fz, h⟩ := hT
  have h1 := hΦ _ _ h
  unfold Go.Lib.TabIs World.var?
  rw [hg, Option.bind_some, h1]
theorem m_strconv_Itoa_ok {Φ : Hp} {w : World} (hΦ : In Φ w) (N : Nat) (p0 : Int) (hT : Tab Φ) {r : ByteArray} (h : m_strconv_Itoa N p0 = some r) :
    Calls Tryz.prog 64 [.int .i64 p0].toArray w (Post (.string r) w) := by
  unfold m_strconv_Itoa at h
  split at h
  · rename_i hc
    cases h
    exact (Any.strconv_Itoa Tryz.laysM171 p0 hc.1 hc.2 w (tab_is hΦ hT (by kernel_rfl))).mono fun e w' ⟨he, k, os, hw⟩ => ⟨he, by rw [hw]; exact below_grw w k os⟩
  · cases h
theorem m_strings_Join_ok {Φ : Hp} {w : World} (hΦ : In Φ w) (N : Nat) (p0 : List ByteArray) (p1 : ByteArray) {pv0 : Value} {pG0 : List Nat} (ph0 : RSl RS 1 Φ pG0 pv0 p0) {r : ByteArray} (h : m_strings_Join N p0 p1 = some r) :
    Calls Tryz.prog 65 [pv0, .string p1].toArray w (Post (.string r) w) := by
  unfold m_strings_Join at h
  split at h
  · rename_i hc
    cases h
    by_cases he : p0 = []
    · subst he
      obtain ⟨a, cap, rfl, -⟩ := ph0.form
      exact (Any.strings_Join_none Tryz.lays156 Tryz.Builder_Extra_156 a cap p1 w).mono fun e w' ⟨h1, h2⟩ => ⟨by rw [h1]; rfl, by rw [h2]; exact Below.refl _ _⟩
    · obtain ⟨cap, hv⟩ := ph0.addr he
      obtain ⟨a', cap', hv', hle⟩ := ph0.form
      have hcap : p0.length ≤ cap := by
        rw [hv] at hv'
        injection hv' with _ _ h3; omega
      have hel : ∀ (j : Nat) x, p0[j]? = some x → w.cell? ⟨sb pv0, so pv0 + j, none⟩ = some (.string x) ∧ sb pv0 < w.heap.size := by
        intro j x hx
        obtain ⟨cs, G, hl, hr, -, -, hR⟩ := ph0.el hx
        obtain ⟨rfl, -⟩ := hR
        rw [Nat.mul_one] at hr
        obtain ⟨ob, hob⟩ := hr.known
        exact ⟨cell_of_rangeAt (hr.rangeAt hΦ), hΦ.lt hob⟩
      have h0 : sb pv0 < w.heap.size := by
        cases p0 with
        | nil => exact absurd rfl he
        | cons x t => exact (hel 0 x rfl).2
      rw [hv]
      exact (Any.strings_Join Tryz.lays156 Tryz.Builder_Extra_156 (sb pv0) (so pv0) cap p0 p1 w (fun j x hx => (hel j x hx).1) h0 hc.1 hcap hc.2).mono fun e w' ⟨h1, h2⟩ => ⟨h1, h2⟩
  · cases h
theorem bld_write {w0 : Base} {Φ : Hp} {O : Vars} {b : Nat} {s t u : ByteArray} {w : World} (hw : SB w0 Φ O 64 5 b s w) (hu : wrt s t = some u) :
    Calls Tryz.prog 32 [.pointer (some ⟨b, 0, none⟩), .string t].toArray w fun e w' => e = .returned (.tuple #[.int .i64 t.size, .nilIface]) ∧ SB w0 Φ O 64 5 b u w' := by
  have hl := (wrt_some hu).1
  have hs : (Go.Lib.byteCells s.data.toList).length = s.size := by unfold Go.Lib.byteCells; rw [List.length_map]; rfl
  exact (Any.Builder_WriteString ({ Tryz.lays156 with } : Go.Proofs.Lays.n166 _ Tryz.lays156_ren) Tryz.Builder_Extra_156 b b _ t w hw.bl (by rw [hs]; exact hl) hw.lt).mono fun e w' ⟨h1, h2, h3⟩ => ⟨h1, hw.wrote hu h2 h3⟩
theorem bld_string {w0 : Base} {Φ : Hp} {O : Vars} {b : Nat} {s : ByteArray} {w : World} (hw : SB w0 Φ O 64 5 b s w) :
    Calls Tryz.prog 33 [.pointer (some ⟨b, 0, none⟩)].toArray w fun e w' => e = .returned (.string s) ∧ SE w0 w' := by
  exact (Any.Builder_String_any ({ Tryz.lays156 with } : Go.Proofs.Lays.n169 _ Tryz.lays156_ren) Tryz.Builder_Extra_156 b b s.data.toList w hw.bl hw.lt).mono fun e w' ⟨h1, h2⟩ => ⟨h1, hw.se h2⟩
end Go.Proofs.YtlfpehhlkccdiaaGreatDoor
