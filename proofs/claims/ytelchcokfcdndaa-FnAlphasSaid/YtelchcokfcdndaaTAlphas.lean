/- Plain laws, one after the other: PLAlphas. -/
import Derived.Test.YtelchcokfcdndaaPLib
import Derived.Test.YtelchcokfcdndaaWAlphasMod
import Derived.Test.YtelchcokfcdndaaWAlphasPur
/-
  Plain laws of common loops, for the cores. No program.
-/
namespace Go.Proofs.Ytelchcokfcdndaa
open Eng
set_option linter.unusedVariables false
set_option linter.unusedSimpArgs false
theorem app_ok {α : Type} {xs ys : List α} (h : xs.length + ys.length ≤ 4294967296) : app xs ys = some (xs ++ ys) := by unfold app; rw [if_pos h]
theorem app_nil {α : Type} {ys : List α} (h : ys.length ≤ 4294967296) : app ([] : List α) ys = some ys := by rw [app_ok (by simpa using h)]; rfl
theorem andS (a b : Bool) : (if a = true then some b else some false) = some (a && b) := by cases a <;> rfl
theorem orS (a b : Bool) : (if a = true then some true else some b) = some (a || b) := by cases a <;> rfl
end Go.Proofs.Ytelchcokfcdndaa
/-
  Plain laws of loops over lists, one law for all. No program.
-/
namespace Go.Proofs.Ytelchcokfcdndaa
open Eng
set_option linter.unusedVariables false
set_option linter.unusedSimpArgs false
theorem lp {σ α β : Type} (xs : List α) (hl : xs.length ≤ 4294967296) (f : Nat → σ → Int → Option β) (G : List α → σ → Option β) (I : σ → List α → Prop)
    (hs : ∀ n s (i : Nat) (x : α) (t : List α), xs.drop i = x :: t → x ∈ xs → i < xs.length → idx xs (i : Int) = some x → decide ((i : Int) < (xs.length : Int)) = true → IntKind.i64.wrap ((i : Int) + 1) = ((i + 1 : Nat) : Int) → I s (x :: t) →
      (∀ s', I s' t → f n s' ((i + 1 : Nat) : Int) = G t s') → f (n + 1) s i = G (x :: t) s)
    (he : ∀ n s (i : Nat), i = xs.length → decide ((i : Int) < (xs.length : Int)) = false → I s [] → f (n + 1) s i = G [] s) :
    ∀ (n i : Nat) (s : σ), i ≤ xs.length → xs.length - i < n → I s (xs.drop i) → f n s i = G (xs.drop i) s := by
  intro n
  induction n with
  | zero => intro i s _ h; omega
  | succ n ih =>
    intro i s hi hn hI
    by_cases hlt : i < xs.length
    · have hd := List.drop_eq_getElem_cons hlt
      rw [hd] at hI ⊢
      exact hs n s i _ _ hd (List.getElem_mem hlt) hlt (idx_nat_lt hlt) (decide_eq_true (by omega)) (wr1 i (by omega)) hI (fun s' hs' => ih (i + 1) s' (by omega) (by omega) hs')
    · have hd : xs.drop i = [] := List.drop_of_length_le (by omega)
      rw [hd] at hI ⊢
      exact he n s i (by omega) (decide_eq_false (by omega)) hI
end Go.Proofs.Ytelchcokfcdndaa
namespace Go.Proofs.Ytelchcokfcdndaa
open Eng
set_option linter.unusedVariables false
set_option linter.unusedSimpArgs false
theorem and_le (i : Int) (m : Nat) (h : m < 4611686018427387904) : 0 ≤ andI .i64 i (m : Int) ∧ andI .i64 i (m : Int) ≤ (m : Int) := by
  unfold andI
  have h1 : ((BitVec.ofInt IntKind.i64.bits i) &&& (BitVec.ofInt IntKind.i64.bits (m : Int))).toNat ≤ m := by
    rw [BitVec.toNat_and]
    have h2 : (BitVec.ofInt IntKind.i64.bits (m : Int)).toNat = m := by
      rw [BitVec.toNat_ofInt]
      have : ((2 ^ IntKind.i64.bits : Nat) : Int) = 18446744073709551616 := by decide
      rw [this, Int.emod_eq_of_lt (by omega) (by omega)]
      simp
    rw [h2]; exact Nat.and_le_right
  rw [wr (by omega) (by omega)]
  omega
theorem and255 (i : Int) : 0 ≤ andI .i64 i 255 ∧ andI .i64 i 255 ≤ 255 := and_le i 255 (by omega)
def GC (b : List Int) (c : Tl1Cur) : Prop := c.b = b ∧ 0 ≤ c.i ∧ c.i ≤ (b.length : Int)
theorem GC.re {b : List Int} {c d : Tl1Cur} (h : GC b c) (h' : d.b = b) : GC b (⟨d.b, c.i, c.h⟩ : Tl1Cur) := ⟨h', h.2⟩
theorem new_ok {N : Nat} (hN : 1099000000000 ≤ N) (b : List Int) (hb : b.length ≤ 1048576) : ∃ c, m_s_l1New N b = some c ∧ GC b c := by
  unfold m_s_l1New
  have : ∀ (n i : Nat) (h : Int), i ≤ b.length → b.length - i < n → ∃ c, m_s_l1New_l1 N b n h i = some c ∧ GC b c := by
    intro n
    induction n with
    | zero => intro i h _ h'; omega
    | succ n ih =>
      intro i h hi hn
      simp only [m_s_l1New_l1]
      by_cases hlt : i < b.length
      · have c1 : decide ((i : Int) < (b.length : Int)) = true := decide_eq_true (by omega)
        simp only [c1, if_true, Option.bind_some, idx_nat_lt hlt, wr1 i (by omega)]
        split
        · exact ih (i + 1) _ (by omega) (by omega)
        · exact ⟨_, rfl, rfl, by simp, by simp⟩
      · have c1 : decide ((i : Int) < (b.length : Int)) = false := decide_eq_false (by omega)
        simp only [c1, Bool.false_eq_true, if_false, Option.bind_some]
        exact ⟨_, rfl, rfl, by simp, by simp⟩
  exact this N 0 _ (by omega) (by omega)
theorem byte_ok {N : Nat} (b : List Int) (hb : b.length ≤ 1048576) (c : Tl1Cur) (hc : GC b c) : ∃ v d, m_s_l1Byte N c = some (v, d) ∧ GC b d ∧ 0 ≤ v ∧ v ≤ 255 := by
  obtain ⟨rfl, h0, h1⟩ := hc
  unfold m_s_l1Byte
  by_cases hlt : c.i < (c.b.length : Int)
  · obtain ⟨i, hi⟩ : ∃ i : Nat, c.i = (i : Int) := ⟨c.i.toNat, by omega⟩
    have c1 : decide (c.i < (c.b.length : Int)) = true := decide_eq_true hlt
    rw [hi] at h0 h1 hlt ⊢
    rw [hi] at c1
    simp only [c1, if_true, idx_nat_lt (show i < c.b.length by omega), Option.bind_some, wr1 i (by omega)]
    exact ⟨_, _, rfl, ⟨rfl, by simp; omega, by simp; omega⟩, and255 _⟩
  · have c1 : decide (c.i < (c.b.length : Int)) = false := decide_eq_false hlt
    simp only [c1, Bool.false_eq_true, if_false]
    exact ⟨_, _, rfl, ⟨rfl, h0, h1⟩, and255 _⟩
theorem rem_ok {v n : Int} (hv : 0 ≤ v) (hn : 0 < n) : ∃ r, remI v n = some r ∧ 0 ≤ r ∧ r < n := by
  unfold remI
  rw [if_neg (by omega), Int.tmod_eq_emod_of_nonneg hv]
  exact ⟨_, rfl, Int.emod_nonneg _ (by omega), Int.emod_lt_of_pos _ hn⟩
theorem below_ok {N : Nat} (b : List Int) (hb : b.length ≤ 1048576) (c : Tl1Cur) (hc : GC b c) (n : Int) : ∃ v d, m_s_l1Below N c n = some (v, d) ∧ GC b d ∧ 0 ≤ v ∧ (0 < n → v < n) ∧ (n ≤ 0 → v = 0) := by
  unfold m_s_l1Below
  by_cases h0 : n ≤ 0
  · simp only [h0, decide_true, if_true]
    exact ⟨_, _, rfl, hc, by omega, by omega, fun _ => rfl⟩
  · simp only [h0, decide_false, Bool.false_eq_true, if_false]
    by_cases h1 : n ≤ 256
    · simp only [h1, decide_true, if_true]
      obtain ⟨v, d, e, g, a1, a2⟩ := byte_ok (N := N) b hb c hc
      obtain ⟨r, er, r0, r1⟩ := rem_ok a1 (show 0 < n by omega)
      simp only [e, Option.bind_some, er]
      exact ⟨_, _, rfl, g.re hc.1 |> fun _ => ⟨hc.1, g.2⟩, r0, fun _ => r1, fun h => h.elim⟩
    · simp only [h1, decide_false, Bool.false_eq_true, if_false]
      obtain ⟨v1, d1, e1, g1, a1, a1'⟩ := byte_ok (N := N) b hb c hc
      simp only [e1, Option.bind_some]
      obtain ⟨v2, d2, e2, g2, a2, a2'⟩ := byte_ok (N := N) b hb ⟨c.b, d1.i, d1.h⟩ ⟨hc.1, g1.2⟩
      simp only [e2, Option.bind_some]
      obtain ⟨v3, d3, e3, g3, a3, a3'⟩ := byte_ok (N := N) b hb ⟨c.b, d2.i, d2.h⟩ ⟨hc.1, g2.2⟩
      simp only [e3, Option.bind_some]
      rw [wr (n := v1 * 65536) (by omega) (by omega), wr (n := v2 * 256) (by omega) (by omega), wr (n := v1 * 65536 + v2 * 256) (by omega) (by omega), wr (n := v1 * 65536 + v2 * 256 + v3) (by omega) (by omega)]
      obtain ⟨r, er, r0, r1⟩ := rem_ok (show 0 ≤ v1 * 65536 + v2 * 256 + v3 by omega) (show 0 < n by omega)
      simp only [er, Option.bind_some]
      exact ⟨_, _, rfl, ⟨hc.1, g3.2⟩, r0, fun _ => r1, fun h => h.elim⟩
theorem wrm {s : Int} (h : 0 < s) (h' : s ≤ 4611686018427387904) : IntKind.i64.wrap (s - 1) = s - 1 := wr (by omega) (by omega)
end Go.Proofs.Ytelchcokfcdndaa
namespace Go.Proofs.Ytelchcokfcdndaa
open Eng
set_option linter.unusedVariables false
set_option linter.unusedSimpArgs false
def Dr {α : Type} (b : List Int) (Q : α → Prop) (o : Option (α × Tl1Cur)) : Prop := ∃ v d, o = some (v, d) ∧ GC b d ∧ Q v
theorem Dr.bind {α β : Type} {b : List Int} {Q : α → Prop} {R : β → Prop} {o : Option (α × Tl1Cur)} {f : α × Tl1Cur → Option (β × Tl1Cur)} (h : Dr b Q o) (k : ∀ v d, GC b d → Q v → Dr b R (f (v, d))) : Dr b R (o.bind f) := by
  obtain ⟨v, d, rfl, g, q⟩ := h; exact k v d g q
theorem Dr.bindO {γ β : Type} {b : List Int} {R : β → Prop} {x : γ} {o : Option γ} {f : γ → Option (β × Tl1Cur)} (h : o = some x) (k : Dr b R (f x)) : Dr b R (o.bind f) := by
  rw [h]; exact k
theorem Dr.ret {α : Type} {b : List Int} {Q : α → Prop} {v : α} {c : Tl1Cur} (g : GC b c) (q : Q v) : Dr b Q (some (v, c)) := ⟨v, c, rfl, g, q⟩
theorem Dr.ite {α : Type} {b : List Int} {Q : α → Prop} {x y : Option (α × Tl1Cur)} {p : Bool} (h1 : p = true → Dr b Q x) (h2 : p = false → Dr b Q y) : Dr b Q (if p = true then x else y) := by
  cases p with
  | true => exact h1 rfl
  | false => exact h2 rfl
theorem GC.at {b : List Int} {c d : Tl1Cur} (g : GC b d) (h : c.b = b) : GC b (⟨c.b, d.i, d.h⟩ : Tl1Cur) := ⟨h, g.2⟩
theorem below_d {N : Nat} {b : List Int} (hb : b.length ≤ 1048576) {c : Tl1Cur} (g : GC b c) (n : Int) (hn : 0 < n) : Dr b (fun v => 0 ≤ v ∧ v < n) (m_s_l1Below N c n) := by
  obtain ⟨v, d, e, g, h1, h2, -⟩ := below_ok (N := N) b hb c g n
  exact ⟨v, d, e, g, h1, h2 hn⟩
theorem below_d' {N : Nat} {b : List Int} (hb : b.length ≤ 1048576) {c : Tl1Cur} (g : GC b c) (n : Int) : Dr b (fun v => 0 ≤ v ∧ (0 < n → v < n)) (m_s_l1Below N c n) := by
  obtain ⟨v, d, e, g, h1, h2, -⟩ := below_ok (N := N) b hb c g n
  exact ⟨v, d, e, g, h1, h2⟩
theorem app_sm {α : Type} {xs ys : List α} (h : xs.length ≤ 4194304) (h' : ys.length ≤ 4194304) : app xs ys = some (xs ++ ys) := app_ok (by omega)
theorem mem_snoc {α : Type} {P : α → Prop} {xs : List α} {x : α} (h : ∀ a ∈ xs, P a) (h' : P x) : ∀ a ∈ xs ++ [x], P a := fun a ha => by
  rcases List.mem_append.1 ha with h1 | h1
  · exact h a h1
  · simp at h1; rw [h1]; exact h'
end Go.Proofs.Ytelchcokfcdndaa
namespace Go.Proofs.Ytelchcokfcdndaa
open Eng
theorem once_d {N : Nat} {b : List Int} (hb : b.length ≤ 1048576) {c : Tl1Cur} (g : GC b c) (n : Int) : Dr b (fun _ => True) (m_s_l1Once N c n) := by
  unfold m_s_l1Once
  exact (below_d' hb g n).bind fun v d gd _ => .ret (gd.at g.1) trivial
end Go.Proofs.Ytelchcokfcdndaa
namespace Go.Proofs.Ytelchcokfcdndaa
open Eng
theorem str_d {N : Nat} {b : List Int} (hb : b.length ≤ 1048576) {c : Tl1Cur} (g : GC b c) (l : List ByteArray) (h : 0 < l.length) : Dr b (fun s => s ∈ l) (m_s_l1Str N c l) := by
  unfold m_s_l1Str
  refine (below_d hb g (l.length : Int) (by omega)).bind fun v d gd q => ?_
  obtain ⟨j, rfl⟩ : ∃ j : Nat, v = (j : Int) := ⟨v.toNat, by omega⟩
  exact .bindO (idx_nat_lt (show j < l.length by omega)) (.ret (gd.at g.1) (List.getElem_mem _))
end Go.Proofs.Ytelchcokfcdndaa
namespace Go.Proofs.Ytelchcokfcdndaa
open Eng
def drVal (v : TVal) : Prop := (∃ n : Int, 1 ≤ n ∧ n ≤ 3 ∧ v = ⟨1, n, ⟨#[]⟩⟩) ∨ ∃ s ∈ ([⟨#[97]⟩, ⟨#[98]⟩] : List ByteArray), v = ⟨2, 0, s⟩
theorem small_d {N : Nat} {b : List Int} (hb : b.length ≤ 1048576) {c : Tl1Cur} (g : GC b c) : Dr b drVal (m_s_l3Small N c) := by
  unfold m_s_l3Small
  refine (once_d hb g 2).bind fun v d gd _ => .ite (fun _ => ?_) fun _ => ?_
  · exact (below_d hb (gd.at g.1) 3 (by omega)).bind fun w e ge q => .ret (ge.at g.1) (.inl ⟨_, by dsimp only; rw [wr (by omega) (by omega)]; omega, by dsimp only; rw [wr (by omega) (by omega)]; omega, rfl⟩)
  · exact (str_d hb (gd.at g.1) _ (by decide)).bind fun w e ge q => .ret (ge.at g.1) (.inr ⟨w, q, rfl⟩)
theorem drVal_sz {v : TVal} (h : drVal v) : v.S.size ≤ 16 := by
  rcases h with ⟨n, _, _, rfl⟩ | ⟨s, hs, rfl⟩
  · show (0 : Nat) ≤ 16; omega
  · exact (show ∀ s ∈ ([⟨#[97]⟩, ⟨#[98]⟩] : List ByteArray), s.size ≤ 16 by decide) s hs
end Go.Proofs.Ytelchcokfcdndaa
namespace Go.Proofs.Ytelchcokfcdndaa
open Eng
set_option linter.unusedVariables false
def shArg (a : TArg) : Prop := a.S.size ≤ 16 ∧ a.V.S.size ≤ 16
def shPat (p : TPat) : Prop := p.Kind.size ≤ 16 ∧ p.Args.length ≤ 16 ∧ ∀ a ∈ p.Args, shArg a
def drArg (a : TArg) : Prop := a = ⟨3, ⟨#[]⟩, ⟨0, 0, ⟨#[]⟩⟩⟩ ∨ (∃ v, drVal v ∧ a = ⟨2, ⟨#[]⟩, v⟩) ∨ ∃ s ∈ ([⟨#[88]⟩, ⟨#[89]⟩, ⟨#[90]⟩, ⟨#[88]⟩] : List ByteArray), a = ⟨1, s, ⟨0, 0, ⟨#[]⟩⟩⟩
theorem drArg_sz {a : TArg} (h : drArg a) : shArg a := by
  rcases h with rfl | ⟨v, hv, rfl⟩ | ⟨s, hs, rfl⟩
  · exact ⟨Nat.zero_le _, Nat.zero_le _⟩
  · exact ⟨Nat.zero_le _, drVal_sz hv⟩
  · exact ⟨(show ∀ s ∈ ([⟨#[88]⟩, ⟨#[89]⟩, ⟨#[90]⟩, ⟨#[88]⟩] : List ByteArray), s.size ≤ 16 by decide) s hs, Nat.zero_le _⟩
theorem arg_d {N : Nat} {b : List Int} (hb : b.length ≤ 1048576) {c : Tl1Cur} (g : GC b c) : Dr b drArg (m_s_l6Arg N c) := by
  unfold m_s_l6Arg
  refine (below_d hb g 6 (by omega)).bind fun v d gd _ => .ite (fun _ => .ret (gd.at g.1) (.inl rfl)) fun _ => .ite (fun _ => ?_) fun _ => ?_
  · exact (small_d hb (gd.at g.1)).bind fun w e ge q => .bindO rfl (.ret (ge.at g.1) (.inr (.inl ⟨w, q, rfl⟩)))
  · exact (str_d hb (gd.at g.1) _ (by decide)).bind fun w e ge q => .bindO rfl (.ret (ge.at g.1) (.inr (.inr ⟨w, q, rfl⟩)))
def drPat (n : Bool) (p : TPat) : Prop := p.Not = n ∧ p.Kind ∈ ([⟨#[111, 114, 100, 101, 114]⟩, ⟨#[112, 97, 105, 100]⟩, ⟨#[105, 116, 101, 109]⟩, ⟨#[111, 114, 100, 101, 114]⟩] : List ByteArray) ∧ p.Args.length ≤ 2 ∧ ∀ a ∈ p.Args, drArg a
theorem drPat_sz {n : Bool} {p : TPat} (h : drPat n p) : shPat p := by
  obtain ⟨_, h1, h2, h3⟩ := h
  exact ⟨(show ∀ s ∈ ([⟨#[111, 114, 100, 101, 114]⟩, ⟨#[112, 97, 105, 100]⟩, ⟨#[105, 116, 101, 109]⟩, ⟨#[111, 114, 100, 101, 114]⟩] : List ByteArray), s.size ≤ 16 by decide) _ h1, by omega, fun a ha => drArg_sz (h3 a ha)⟩
theorem pat_d {N : Nat} (hN : 1099000000000 ≤ N) {b : List Int} (hb : b.length ≤ 1048576) {c : Tl1Cur} (g : GC b c) (nt : Bool) : Dr b (drPat nt) (m_s_l6Draw N c nt) := by
  unfold m_s_l6Draw
  refine (str_d hb g _ (by decide)).bind fun k d gd hk => ?_
  have lp : ∀ (m : Nat), m ≤ 2 → ∀ (n i : Nat) (s : List TArg) (x h : Int), i ≤ m → m - i < n → s.length = i → (∀ a ∈ s, drArg a) → GC b ⟨c.b, x, h⟩ → Dr b (drPat nt) (m_s_l6Draw_l2 N c nt (k, d) (m : Int) n s (i : Int) x h) := by
    intro m hm n
    induction n with
    | zero => intro i _ _ _ _ h; omega
    | succ n ih =>
      intro i s x h hi hn hs ha gx
      simp only [m_s_l6Draw_l2]
      refine .ite (fun hlt => ?_) (fun hge => .ret gx ⟨rfl, hk, by dsimp only; omega, ha⟩)
      have hlt := of_decide_eq_true hlt
      refine (arg_d hb gx).bind fun a e ge q => .bindO (app_sm (by omega) (by simp)) ?_
      rw [wr1 i (by omega)]
      exact ih (i + 1) _ _ _ (by omega) (by omega) (by simp; omega) (mem_snoc ha q) (ge.at (c := ⟨c.b, x, h⟩) gx.1)
  exact .ite (fun _ => lp 2 (by omega) N 0 [] _ _ (by omega) (by omega) rfl (by simp) (gd.at g.1)) (fun _ => lp 1 (by omega) N 0 [] _ _ (by omega) (by omega) rfl (by simp) (gd.at g.1))
end Go.Proofs.Ytelchcokfcdndaa
namespace Go.Proofs.Ytelchcokfcdndaa
open Eng
set_option linter.unusedVariables false
set_option linter.unusedSimpArgs false
theorem wr5 {v : Int} (h : 0 ≤ v) (h' : v < 4294967296) : IntKind.i64.wrap (5 + v) = 5 + v := wr (by omega) (by omega)
theorem patAny_d {N : Nat} (hN : 1099000000000 ≤ N) {b : List Int} (hb : b.length ≤ 1048576) {c : Tl1Cur} (g : GC b c) : Dr b shPat (m_s_l6Any N c) := by
  unfold m_s_l6Any
  refine (once_d hb g 3).bind fun nt d0 g0 _ => (pat_d hN hb (g0.at g.1) nt).bind fun p d gd hp => (below_d hb (gd.at g.1) 10 (by omega)).bind fun v e ge _ => ?_
  obtain ⟨s1, s2, s3⟩ := drPat_sz hp
  refine .ite (fun _ => ?_) fun _ => .ite (fun _ => ?_) fun _ => .ite (fun _ => ?_) fun _ => .ret (ge.at g.1) ⟨s1, s2, s3⟩
  · exact (str_d hb (ge.at g.1) _ (by decide)).bind fun k f gf hk => .ret (gf.at g.1) ⟨(show ∀ s ∈ ([⟨#[]⟩, ⟨#[65]⟩, ⟨#[120]⟩] : List ByteArray), s.size ≤ 16 by decide) _ hk, s2, s3⟩
  · refine (below_d hb (ge.at g.1) 5 (by omega)).bind fun k f gf hk => (str_d hb (gf.at g.1) _ (by decide)).bind fun s f' gf' hs => .bindO (app_sm (show p.Args.length ≤ 4194304 by have := hp.2.2.1; omega) (by simp)) (.ret (gf'.at g.1) ⟨s1, ?_, mem_snoc s3 ⟨?_, Nat.zero_le _⟩⟩)
    · have := hp.2.2.1; simp; omega
    · exact (show ∀ s ∈ ([⟨#[]⟩, ⟨#[120]⟩, ⟨#[88]⟩] : List ByteArray), s.size ≤ 16 by decide) _ hs
  · have lp : ∀ (n : Nat) (s : List TArg) (x h : Int), s.length ≤ 6 → 6 - s.length < n → (∀ a ∈ s, shArg a) → GC b ⟨c.b, x, h⟩ → Dr b shPat (m_s_l6Any_l3 N c (p, d) n s x h) := by
      intro n
      induction n with
      | zero => intro s _ _ _ h; omega
      | succ n ih =>
        intro s x h hl hn hs gx
        simp only [m_s_l6Any_l3]
        refine (below_d hb gx 2 (by omega)).bind fun w f gf hw => ?_
        dsimp only
        rw [wr5 hw.1 (by omega)]
        refine .ite (fun hlt => ?_) (fun _ => .ret (gf.at (c := ⟨c.b, x, h⟩) gx.1) ⟨s1, by dsimp only; omega, hs⟩)
        have hlt := of_decide_eq_true hlt
        refine (arg_d hb (gf.at (c := ⟨c.b, x, h⟩) gx.1)).bind fun a f' gf' qa => .bindO (app_sm (by omega) (by simp)) ?_
        exact ih _ _ _ (by simp; omega) (by simp; omega) (mem_snoc hs (drArg_sz qa)) (gf'.at (c := ⟨c.b, x, h⟩) gx.1)
    exact lp N p.Args _ _ (by have := hp.2.2.1; omega) (by omega) s3 (ge.at g.1)
end Go.Proofs.Ytelchcokfcdndaa
namespace Go.Proofs.Ytelchcokfcdndaa
open Eng
set_option linter.unusedVariables false
set_option linter.unusedSimpArgs false
def kinds3 : List ByteArray := [⟨#[111, 114, 100, 101, 114]⟩, ⟨#[112, 97, 105, 100]⟩, ⟨#[105, 116, 101, 109]⟩, ⟨#[111, 114, 100, 101, 114]⟩]
def drFact (f : TFact) : Prop := f.Kind ∈ kinds3 ∧ f.Fields.length ≤ 5 ∧ ∀ v ∈ f.Fields, drVal v
theorem fact_d {N : Nat} (hN : 1099000000000 ≤ N) {b : List Int} (hb : b.length ≤ 1048576) {c : Tl1Cur} (g : GC b c) : Dr b drFact (m_s_l3Draw N c) := by
  unfold m_s_l3Draw
  refine (str_d hb g _ (by decide)).bind fun k d gd hk => ?_
  have lp : ∀ (m : Nat), m ≤ 5 → ∀ (n i : Nat) (s : List TVal) (x h : Int), i ≤ m → m - i < n → s.length = i → (∀ a ∈ s, drVal a) → GC b ⟨c.b, x, h⟩ → Dr b drFact (m_s_l3Draw_l3 N c (k, d) (m : Int) n s (i : Int) x h) := by
    intro m hm n
    induction n with
    | zero => intro i _ _ _ _ h; omega
    | succ n ih =>
      intro i s x h hi hn hs ha gx
      simp only [m_s_l3Draw_l3]
      refine .ite (fun hlt => ?_) (fun hge => .ret gx ⟨hk, by dsimp only; omega, ha⟩)
      have hlt := of_decide_eq_true hlt
      refine (small_d hb gx).bind fun a e ge q => .bindO (app_sm (by omega) (by simp)) ?_
      rw [wr1 i (by omega)]
      exact ih (i + 1) _ _ _ (by omega) (by omega) (by simp; omega) (mem_snoc ha q) (ge.at (c := ⟨c.b, x, h⟩) gx.1)
  have j1 : ∀ (m : Nat), m ≤ 5 → Dr b drFact (m_s_l3Draw_j1 N c (k, d) (m : Int)) := by
    intro m hm
    unfold m_s_l3Draw_j1 m_s_l3Draw_j2
    refine (once_d hb (gd.at g.1) 12).bind fun v e ge _ => .ite (fun _ => ?_) (fun _ => ?_)
    · refine (below_d hb (ge.at g.1) 6 (by omega)).bind fun w f gf hw => ?_
      obtain ⟨j, rfl⟩ : ∃ j : Nat, w = (j : Int) := ⟨w.toNat, by omega⟩
      exact lp j (by omega) N 0 [] _ _ (by omega) (by omega) rfl (by simp) (gf.at g.1)
    · exact lp m hm N 0 [] _ _ (by omega) (by omega) rfl (by simp) (ge.at g.1)
  exact .ite (fun _ => j1 2 (by omega)) (fun _ => j1 1 (by omega))
end Go.Proofs.Ytelchcokfcdndaa
namespace Go.Proofs.Ytelchcokfcdndaa
open Eng
theorem int_d {N : Nat} {b : List Int} (hb : b.length ≤ 1048576) {c : Tl1Cur} (g : GC b c) (l : List Int) (h : 0 < l.length) : Dr b (fun s => s ∈ l) (m_s_l1Int N c l) := by
  unfold m_s_l1Int
  refine (below_d hb g (l.length : Int) (by omega)).bind fun v d gd q => ?_
  obtain ⟨j, rfl⟩ : ∃ j : Nat, v = (j : Int) := ⟨v.toNat, by omega⟩
  exact .bindO (idx_nat_lt (show j < l.length by omega)) (.ret (gd.at g.1) (List.getElem_mem _))
end Go.Proofs.Ytelchcokfcdndaa
namespace Go.Proofs.Ytelchcokfcdndaa
open Eng
set_option linter.unusedVariables false
set_option linter.unusedSimpArgs false
theorem val2_d {N : Nat} {b : List Int} (hb : b.length ≤ 1048576) {c : Tl1Cur} (g : GC b c) : Dr b (fun _ => True) (m_s_l2Draw N c) := by
  unfold m_s_l2Draw
  exact (once_d hb g 2).bind fun q d gd _ => .ite (fun _ => (int_d hb (gd.at g.1) _ (by decide)).bind fun v e ge _ => .ret (ge.at g.1) trivial) fun _ => (str_d hb (gd.at g.1) _ (by decide)).bind fun v e ge _ => .ret (ge.at g.1) trivial
theorem valAny_d {N : Nat} {b : List Int} (hb : b.length ≤ 1048576) {c : Tl1Cur} (g : GC b c) : Dr b (fun _ => True) (m_s_l2Any N c) := by
  unfold m_s_l2Any
  refine (val2_d hb g).bind fun x d gd _ => (below_d hb (gd.at g.1) 10 (by omega)).bind fun v e ge _ => .ite (fun _ => ?_) fun _ => .ite (fun _ => ?_) fun _ => .ite (fun _ => ?_) fun _ => .ret (ge.at g.1) trivial
  · exact (below_d hb (ge.at g.1) 4 (by omega)).bind fun k f gf _ => .ret (gf.at g.1) trivial
  · exact (int_d hb (ge.at g.1) _ (by decide)).bind fun k f gf _ => .ret (gf.at g.1) trivial
  · exact (str_d hb (ge.at g.1) _ (by decide)).bind fun k f gf _ => .ret (gf.at g.1) trivial
theorem factAny_d {N : Nat} (hN : 1099000000000 ≤ N) {b : List Int} (hb : b.length ≤ 1048576) {c : Tl1Cur} (g : GC b c) : Dr b (fun f => f.Fields.length ≤ 16) (m_s_l3Any N c) := by
  unfold m_s_l3Any
  refine (fact_d hN hb g).bind fun x d gd hx => (below_d hb (gd.at g.1) 10 (by omega)).bind fun v e ge _ => ?_
  have hl := hx.2.1
  refine .ite (fun _ => ?_) fun _ => .ite (fun _ => ?_) fun _ => .ite (fun _ => ?_) fun _ => .ret (ge.at g.1) (by dsimp only; omega)
  · exact (str_d hb (ge.at g.1) _ (by decide)).bind fun k f gf _ => .ret (gf.at g.1) (by dsimp only; omega)
  · exact (valAny_d hb (ge.at g.1)).bind fun k f gf _ => .bindO (app_sm (show x.Fields.length ≤ 4194304 by omega) (by simp)) (.ret (gf.at g.1) (by simp; omega))
  · have lp : ∀ (n : Nat) (s : List TVal) (y h : Int), s.length ≤ 6 → 6 - s.length < n → GC b ⟨c.b, y, h⟩ → Dr b (fun f => f.Fields.length ≤ 16) (m_s_l3Any_l2 N c (x, d) n s y h) := by
      intro n
      induction n with
      | zero => intro s _ _ _ h; omega
      | succ n ih =>
        intro s y h hs hn gx
        simp only [m_s_l3Any_l2]
        refine (below_d hb gx 2 (by omega)).bind fun w f gf hw => ?_
        dsimp only
        rw [show IntKind.i64.wrap (5 + w) = 5 + w from wr (by omega) (by omega)]
        refine .ite (fun hlt => ?_) (fun _ => .ret (gf.at (c := ⟨c.b, y, h⟩) gx.1) (by dsimp only; omega))
        have hlt := of_decide_eq_true hlt
        refine (val2_d hb (gf.at (c := ⟨c.b, y, h⟩) gx.1)).bind fun a f' gf' _ => .bindO (app_sm (by omega) (by simp)) ?_
        exact ih _ _ _ (by simp; omega) (by simp; omega) (gf'.at (c := ⟨c.b, y, h⟩) gx.1)
    exact lp N x.Fields _ _ (by omega) (by omega) (ge.at g.1)
end Go.Proofs.Ytelchcokfcdndaa
namespace Go.Proofs.Ytelchcokfcdndaa
open Eng
set_option linter.unusedVariables false
set_option linter.unusedSimpArgs false
def drBind (x : TBind) : Prop := x.Name ∈ ([⟨#[88]⟩, ⟨#[89]⟩, ⟨#[87]⟩] : List ByteArray) ∧ drVal x.V
theorem binds_d {N : Nat} (hN : 1099000000000 ≤ N) {b : List Int} (hb : b.length ≤ 1048576) {c : Tl1Cur} (g : GC b c) : Dr b (fun l => l.length ≤ 3 ∧ ∀ x ∈ l, drBind x) (m_s_l6Binds N c) := by
  unfold m_s_l6Binds
  refine (below_d hb g 3 (by omega)).bind fun v e ge hv => ?_
  have lp : ∀ (n : Nat) (s : List TBind) (k x h : Int), 0 ≤ k → k < n → s.length + k ≤ 3 → (∀ m ∈ s, drBind m) → GC b ⟨c.b, x, h⟩ → Dr b (fun l => l.length ≤ 3 ∧ ∀ x ∈ l, drBind x) (m_s_l6Binds_l1 N c n s k x h) := by
    intro n
    induction n with
    | zero => intro s k x h h0 h1; omega
    | succ n ih =>
      intro s k x h h0 h1 h2 hs gx
      simp only [m_s_l6Binds_l1]
      refine .ite (fun hk => ?_) (fun _ => .ret gx ⟨by omega, hs⟩)
      have hk := of_decide_eq_true hk
      refine (str_d hb gx _ (by decide)).bind fun nm f gf qn => (small_d hb (gf.at (c := ⟨c.b, x, h⟩) gx.1)).bind fun w f2 gf2 qw => .bindO (app_sm (by omega) (by simp)) ?_
      rw [wrm hk (by omega)]
      exact ih _ (k - 1) _ _ (by omega) (by omega) (by simp; omega) (mem_snoc hs ⟨qn, qw⟩) (gf2.at (c := ⟨c.b, x, h⟩) gx.1)
  exact lp N [] v _ _ hv.1 (by omega) (by simp; omega) (by simp) (ge.at g.1)
end Go.Proofs.Ytelchcokfcdndaa
namespace Go.Proofs.Ytelchcokfcdndaa
open Eng
set_option linter.unusedVariables false
set_option linter.unusedSimpArgs false
def consts : List TArg → List TVal
  | [] => []
  | a :: t => if a.K = 2 then a.V :: consts t else consts t
def ats : Nat → List TArg → List Int
  | _, [] => []
  | i, a :: t => if a.K = 2 then (i : Int) :: ats (i + 1) t else ats (i + 1) t
def alphaOf (p : TPat) : TAlpha := ⟨p.Kind, (p.Args.length : Int), consts p.Args, ats 0 p.Args⟩
theorem consts_len : ∀ (l : List TArg), (consts l).length ≤ l.length
  | [] => by simp [consts]
  | a :: t => by have := consts_len t; unfold consts; split <;> simp <;> omega
theorem ats_len : ∀ (l : List TArg) (i : Nat), (ats i l).length ≤ l.length
  | [], _ => by simp [ats]
  | a :: t, i => by have := ats_len t (i + 1); unfold ats; split <;> simp <;> omega
theorem alpha_i {N : Nat} (hN : 1099000000000 ≤ N) (p : TPat) (hl : p.Args.length ≤ 1048576) : m_i_AlphaOf N p = some (alphaOf p) := by
  have lp : ∀ (n i : Nat) (cs : List TVal) (as : List Int), i ≤ p.Args.length → p.Args.length - i < n → cs.length ≤ i → as.length ≤ i →
      m_i_AlphaOf_l1 N p n cs as i = some ⟨p.Kind, (p.Args.length : Int), cs ++ consts (p.Args.drop i), as ++ ats i (p.Args.drop i)⟩ := by
    intro n
    induction n with
    | zero => intro i _ _ _ h; omega
    | succ n ih =>
      intro i cs as hi hn h1 h2
      by_cases hlt : i < p.Args.length
      · have c1 : decide ((i : Int) < (p.Args.length : Int)) = true := decide_eq_true (by omega)
        rw [List.drop_eq_getElem_cons hlt]
        simp only [m_i_AlphaOf_l1, c1, if_true, idx_nat_lt hlt, Option.bind_some, wr1 i (by omega), consts, ats]
        by_cases hk : p.Args[i].K = 2
        · simp only [hk, decide_true, if_true, app_ok (show cs.length + [p.Args[i].V].length ≤ 4294967296 by simp; omega), app_ok (show as.length + [(i : Int)].length ≤ 4294967296 by simp; omega), Option.bind_some]
          rw [ih (i + 1) _ _ (by omega) (by omega) (by simp; omega) (by simp; omega)]; simp
        · simp only [hk, decide_false, Bool.false_eq_true, if_false]
          exact ih (i + 1) _ _ (by omega) (by omega) (by omega) (by omega)
      · have c1 : decide ((i : Int) < (p.Args.length : Int)) = false := decide_eq_false (by omega)
        rw [List.drop_of_length_le (by omega)]
        simp only [m_i_AlphaOf_l1, c1, Bool.false_eq_true, if_false, consts, ats, List.append_nil]
  have := lp N 0 [] [] (by omega) (by omega) (by simp) (by simp)
  unfold m_i_AlphaOf alphaOf
  simpa using this
theorem eqValD (x y : TVal) : eqT_TVal x y = decide (x = y) := eqT_TVal_eq x y
def SzAlpha (a : TAlpha) : Prop := a.Consts.length ≤ 1048576 ∧ a.At.length ≤ 1048576
theorem eqInts {N : Nat} (hN : 1099000000000 ≤ N) (x y : List Int) (hl : x.length ≤ 4294967296) : m_sl_Equal_Sint_int N x y = some (decide (x = y)) := by
  unfold m_sl_Equal_Sint_int
  by_cases c : x.length = y.length
  · rw [if_neg (by simp; omega)]
    refine (eqloop (m_sl_Equal_Sint_int_l1 N x y) x y c (by omega) (fun a b => some (decide (a = b))) (fun a _ b _ => rfl) (fun k i => rfl) N 0 (by omega) (by omega)).trans ?_
    simp
  · rw [if_pos (by simp; omega)]
    have : ¬ x = y := fun e => c (by rw [e])
    simp [this]
theorem eqVals {N : Nat} (hN : 1099000000000 ≤ N) (x y : List TVal) (hl : x.length ≤ 4294967296) : m_sl_Equal_Si_Val_i_Val N x y = some (decide (x = y)) := by
  unfold m_sl_Equal_Si_Val_i_Val
  by_cases c : x.length = y.length
  · rw [if_neg (by simp; omega)]
    refine (eqloop (m_sl_Equal_Si_Val_i_Val_l1 N x y) x y c (by omega) (fun a b => some (decide (a = b))) (fun a _ b _ => rfl) (fun k i => by simp only [m_sl_Equal_Si_Val_i_Val_l1, eqValD, Option.bind_some]) N 0 (by omega) (by omega)).trans ?_
    simp
  · rw [if_pos (by simp; omega)]
    have : ¬ x = y := fun e => c (by rw [e])
    simp [this]
theorem sameA_i {N : Nat} (hN : 1099000000000 ≤ N) (x y : TAlpha) (h : SzAlpha x) : m_i_SameAlpha N x y = some (decide (x = y)) := by
  unfold m_i_SameAlpha
  simp only [eqInts hN _ _ (show x.At.length ≤ 4294967296 by have := h.2; omega), eqVals hN _ _ (show x.Consts.length ≤ 4294967296 by have := h.1; omega), Option.bind_some, andS, seq_eq]
  obtain ⟨a, b, c, d⟩ := x; obtain ⟨e, f, g, k⟩ := y
  simp only [TAlpha.mk.injEq, ← Bool.decide_and, and_assoc]
end Go.Proofs.Ytelchcokfcdndaa
namespace Go.Proofs.Ytelchcokfcdndaa
open Eng
set_option linter.unusedVariables false
set_option linter.unusedSimpArgs false
theorem sameVs {N : Nat} (hN : 1099000000000 ≤ N) (x y : List TVal) (hl : x.length ≤ 4294967296) : m_s_l3SameVals N x y = some (decide (x = y)) := by
  unfold m_s_l3SameVals
  by_cases c : x.length = y.length
  · rw [if_neg (by simp; omega)]
    refine (eqloop (m_s_l3SameVals_l1 N x y) x y c (by omega) (fun a b => some (decide (a = b))) (fun a _ b _ => rfl) (fun k i => by simp only [m_s_l3SameVals_l1, eqT_TVal_eq, Option.bind_some]) N 0 (by omega) (by omega)).trans ?_
    simp
  · rw [if_pos (by simp; omega)]
    have : ¬ x = y := fun e => c (by rw [e])
    simp [this]
end Go.Proofs.Ytelchcokfcdndaa
namespace Go.Proofs.Ytelchcokfcdndaa
open Eng
set_option linter.unusedVariables false
set_option linter.unusedSimpArgs false
theorem sameIs {N : Nat} (hN : 1099000000000 ≤ N) (x y : List Int) (hl : x.length ≤ 4294967296) : m_s_l11Same N x y = some (decide (x = y)) := by
  unfold m_s_l11Same
  by_cases c : x.length = y.length
  · rw [if_neg (by simp; omega)]
    refine (eqloop (m_s_l11Same_l1 N x y) x y c (by omega) (fun a b => some (decide (a = b))) (fun a _ b _ => rfl) (fun k i => rfl) N 0 (by omega) (by omega)).trans ?_
    simp
  · rw [if_pos (by simp; omega)]
    have : ¬ x = y := fun e => c (by rw [e])
    simp [this]
end Go.Proofs.Ytelchcokfcdndaa
namespace Go.Proofs.Ytelchcokfcdndaa
open Eng
set_option linter.unusedVariables false
set_option linter.unusedSimpArgs false
theorem alpha_s {N : Nat} (hN : 1099000000000 ≤ N) (p : TPat) (hl : p.Args.length ≤ 1048576) : m_s_AlphaOf N p = some (alphaOf p) := by
  have lp : ∀ (n i : Nat) (cs : List TVal) (as : List Int), i ≤ p.Args.length → p.Args.length - i < n → cs.length ≤ i → as.length ≤ i →
      m_s_AlphaOf_l1 N p n cs as i = some ⟨p.Kind, (p.Args.length : Int), cs ++ consts (p.Args.drop i), as ++ ats i (p.Args.drop i)⟩ := by
    intro n
    induction n with
    | zero => intro i _ _ _ h; omega
    | succ n ih =>
      intro i cs as hi hn h1 h2
      by_cases hlt : i < p.Args.length
      · have c1 : decide ((i : Int) < (p.Args.length : Int)) = true := decide_eq_true (by omega)
        rw [List.drop_eq_getElem_cons hlt]
        simp only [m_s_AlphaOf_l1, c1, if_true, idx_nat_lt hlt, Option.bind_some, wr1 i (by omega), consts, ats]
        by_cases hk : p.Args[i].K = 2
        · simp only [hk, decide_true, if_true, app_ok (show cs.length + [p.Args[i].V].length ≤ 4294967296 by simp; omega), app_ok (show as.length + [(i : Int)].length ≤ 4294967296 by simp; omega), Option.bind_some]
          rw [ih (i + 1) _ _ (by omega) (by omega) (by simp; omega) (by simp; omega)]; simp
        · simp only [hk, decide_false, Bool.false_eq_true, if_false]
          exact ih (i + 1) _ _ (by omega) (by omega) (by omega) (by omega)
      · have c1 : decide ((i : Int) < (p.Args.length : Int)) = false := decide_eq_false (by omega)
        rw [List.drop_of_length_le (by omega)]
        simp only [m_s_AlphaOf_l1, c1, Bool.false_eq_true, if_false, consts, ats, List.append_nil]
  have := lp N 0 [] [] (by omega) (by omega) (by simp) (by simp)
  unfold m_s_AlphaOf alphaOf
  simpa using this
theorem sameA_s {N : Nat} (hN : 1099000000000 ≤ N) (x y : TAlpha) (h : SzAlpha x) : m_s_SameAlpha N x y = some (decide (x = y)) := by
  unfold m_s_SameAlpha
  simp only [sameIs hN _ _ (show x.At.length ≤ 4294967296 by have := h.2; omega), sameVs hN _ _ (show x.Consts.length ≤ 4294967296 by have := h.1; omega), Option.bind_some, andS, seq_eq]
  obtain ⟨a, b, c, d⟩ := x; obtain ⟨e, f, g, k⟩ := y
  congr 1
  rw [Bool.eq_iff_iff]
  simp only [TAlpha.mk.injEq, Bool.and_eq_true, decide_eq_true_eq]
  constructor
  · rintro ⟨⟨⟨h1, h2⟩, h3⟩, h4⟩; exact ⟨h1, h2, h4, h3⟩
  · rintro ⟨h1, h2, h4, h3⟩; exact ⟨⟨⟨h1, h2⟩, h3⟩, h4⟩
end Go.Proofs.Ytelchcokfcdndaa
namespace Go.Proofs.Ytelchcokfcdndaa
open Eng
set_option linter.unusedVariables false
set_option linter.unusedSimpArgs false
theorem ssl_00 {α : Type} (l : List α) : ssl l 0 0 = some [] := by simp [ssl]
theorem drawMatch {N : Nat} (hN : 1099000000000 ≤ N) {b : List Int} (hb : b.length ≤ 1048576) : ∃ p f l, m_s_DrawMatchPat N b = some (p, f, l) ∧ p.Args.length ≤ 16 ∧ l.length ≤ 3 := by
  unfold m_s_DrawMatchPat
  obtain ⟨c, e0, g0⟩ := new_ok hN b hb
  obtain ⟨p, c1, e1, g1, hp⟩ := pat_d hN hb g0 false
  obtain ⟨f, c2, e2, g2, -⟩ := fact_d hN hb (g1.at g0.1)
  obtain ⟨q, c3, e3, g3, -⟩ := once_d (N := N) hb (g2.at g0.1) 3
  have hpl : p.Args.length ≤ 2 := hp.2.2.1
  have j1 : ∀ (s : List TVal) (x h : Int) (k : ByteArray), GC b ⟨c.b, x, h⟩ → ∃ p' f' l', m_s_DrawMatchPat_j1 N c (p, c1) s x h k = some (p', f', l') ∧ p'.Args.length ≤ 16 ∧ l'.length ≤ 3 := by
    intro s x h k gx
    unfold m_s_DrawMatchPat_j1
    obtain ⟨o, d, i1, k1, -⟩ := once_d (N := N) hb gx 8
    simp only [i1, Option.bind_some]
    cases o with
    | true =>
      obtain ⟨y, d2, i2, k2, hy⟩ := patAny_d hN hb (k1.at (c := c) g0.1)
      obtain ⟨l, d3, i3, k3, hl, -⟩ := binds_d hN hb (k2.at (c := c) g0.1)
      simp only [if_true, i2, Option.bind_some, m_s_DrawMatchPat_j2, i3]
      exact ⟨_, _, _, rfl, hy.2.1, hl⟩
    | false =>
      obtain ⟨l, d3, i3, k3, hl, -⟩ := binds_d hN hb (k1.at (c := c) g0.1)
      simp only [Bool.false_eq_true, if_false, m_s_DrawMatchPat_j2, i3, Option.bind_some]
      exact ⟨_, _, _, rfl, by dsimp only; omega, hl⟩
  simp only [e0, Option.bind_some, e1, e2, e3]
  cases q with
  | true =>
    simp only [Bool.not_true, Bool.false_eq_true, if_false]
    exact j1 _ _ _ _ (g3.at g0.1)
  | false =>
    simp only [Bool.not_false, if_true, ssl_00, Option.bind_some]
    have lp : ∀ (n i : Nat) (s : List TVal) (x h : Int), i ≤ p.Args.length → p.Args.length - i < n → s.length = i → GC b ⟨c.b, x, h⟩ → ∃ p' f' l', m_s_DrawMatchPat_l3 N c (p, c1) n s (i : Int) x h = some (p', f', l') ∧ p'.Args.length ≤ 16 ∧ l'.length ≤ 3 := by
      intro n
      induction n with
      | zero => intro i _ _ _ _ h; omega
      | succ n ih =>
        intro i s x h hi hn hs gx
        simp only [m_s_DrawMatchPat_l3]
        by_cases hlt : i < p.Args.length
        · obtain ⟨v, d, i1, k1, -⟩ := small_d (N := N) hb gx
          have c0 : decide ((i : Int) < (p.Args.length : Int)) = true := decide_eq_true (by omega)
          have next : ∀ (k n' : Int) (t : ByteArray) (x h : Int), GC b ⟨c.b, x, h⟩ → ∃ p' f' l', m_s_DrawMatchPat_j5 N s (i : Int) (m_s_DrawMatchPat_l3 N c (p, c1) n) x h k n' t = some (p', f', l') ∧ p'.Args.length ≤ 16 ∧ l'.length ≤ 3 := by
            intro k n' t x h gy
            unfold m_s_DrawMatchPat_j5
            rw [app_sm (by omega) (by simp), Option.bind_some, wr1 i (by omega)]
            exact ih (i + 1) _ _ _ (by omega) (by omega) (by simp; omega) gy
          simp only [c0, if_true, i1, Option.bind_some, idx_nat_lt hlt]
          by_cases hk : p.Args[i].K = 2
          · obtain ⟨o, d2, i2, k2, -⟩ := once_d (N := N) hb (k1.at (c := c) g0.1) 4
            simp only [hk, decide_true, if_true, i2, Option.bind_some]
            unfold m_s_DrawMatchPat_j4
            cases o with
            | true => simp only [Bool.not_true, Bool.false_eq_true, if_false]; exact next _ _ _ _ _ (k2.at g0.1)
            | false => simp only [Bool.not_false, if_true, idx_nat_lt hlt, Option.bind_some]; exact next _ _ _ _ _ (k2.at g0.1)
          · simp only [hk, decide_false, Bool.false_eq_true, if_false]
            unfold m_s_DrawMatchPat_j4
            simp only [Bool.false_eq_true, if_false]
            exact next _ _ _ _ _ (k1.at g0.1)
        · have c0 : decide ((i : Int) < (p.Args.length : Int)) = false := decide_eq_false (by omega)
          simp only [c0, Bool.false_eq_true, if_false]
          exact j1 _ _ _ _ gx
    exact lp N 0 [] _ _ (by omega) (by omega) rfl (g3.at g0.1)
theorem alphaOf_sz {p : TPat} (h : p.Args.length ≤ 1048576) : SzAlpha (alphaOf p) := by
  have h1 := consts_len p.Args
  have h2 := ats_len p.Args 0
  exact ⟨by show (consts p.Args).length ≤ _; omega, by show (ats 0 p.Args).length ≤ _; omega⟩
theorem drawSame {N : Nat} (hN : 1099000000000 ≤ N) {b : List Int} (hb : b.length ≤ 1048576) : ∃ x y, m_s_DrawSameAlpha N b = some (x, y) ∧ SzAlpha x := by
  unfold m_s_DrawSameAlpha
  obtain ⟨c, e0, g0⟩ := new_ok hN b hb
  obtain ⟨p, c1, e1, g1, hp⟩ := patAny_d hN hb g0
  obtain ⟨q, c3, e3, g3, -⟩ := once_d (N := N) hb (g1.at g0.1) 3
  obtain ⟨p', c4, e4, g4, hp'⟩ := patAny_d hN hb (g3.at (c := c) g0.1)
  have hl : p.Args.length ≤ 1048576 := by have := hp.2.1; omega
  have hl' : p'.Args.length ≤ 1048576 := by have := hp'.2.1; omega
  simp only [e0, Option.bind_some, e1, e3, alpha_s hN p hl, e4, alpha_s hN p' hl']
  cases q with
  | true => exact ⟨_, _, rfl, alphaOf_sz hl⟩
  | false => exact ⟨_, _, rfl, alphaOf_sz hl⟩
theorem drawFit {N : Nat} (hN : 1099000000000 ≤ N) {b : List Int} (hb : b.length ≤ 1048576) : ∃ p f l, m_s_DrawFitting N b = some (p, f, l) ∧ p.Args.length ≤ 16 ∧ f.Fields.length ≤ 16 := by
  unfold m_s_DrawFitting
  obtain ⟨c, e0, g0⟩ := new_ok hN b hb
  obtain ⟨p, c1, e1, g1, hp⟩ := pat_d hN hb g0 false
  have hpl : p.Args.length ≤ 2 := hp.2.2.1
  simp only [e0, Option.bind_some, e1]
  have lp : ∀ (n i : Nat) (s : List TVal) (x h : Int), i ≤ p.Args.length → p.Args.length - i < n → s.length = i → GC b ⟨c.b, x, h⟩ → ∃ p' f' l', m_s_DrawFitting_l1 N c (p, c1) n s (i : Int) x h = some (p', f', l') ∧ p'.Args.length ≤ 16 ∧ f'.Fields.length ≤ 16 := by
    intro n
    induction n with
    | zero => intro i _ _ _ _ h; omega
    | succ n ih =>
      intro i s x h hi hn hs gx
      simp only [m_s_DrawFitting_l1]
      by_cases hlt : i < p.Args.length
      · obtain ⟨v, d, i1, k1, -⟩ := small_d (N := N) hb gx
        have c0 : decide ((i : Int) < (p.Args.length : Int)) = true := decide_eq_true (by omega)
        have next : ∀ (k n' : Int) (t : ByteArray), ∃ p' f' l', m_s_DrawFitting_j2 N s (i : Int) (m_s_DrawFitting_l1 N c (p, c1) n) (v, d) k n' t = some (p', f', l') ∧ p'.Args.length ≤ 16 ∧ f'.Fields.length ≤ 16 := by
          intro k n' t
          unfold m_s_DrawFitting_j2
          rw [app_sm (by omega) (by simp), Option.bind_some, wr1 i (by omega)]
          exact ih (i + 1) _ _ _ (by omega) (by omega) (by simp; omega) (k1.at g0.1)
        simp only [c0, if_true, i1, Option.bind_some, idx_nat_lt hlt]
        by_cases hk : p.Args[i].K = 2
        · simp only [hk, decide_true, if_true]; exact next _ _ _
        · simp only [hk, decide_false, Bool.false_eq_true, if_false]; exact next _ _ _
      · have c0 : decide ((i : Int) < (p.Args.length : Int)) = false := decide_eq_false (by omega)
        obtain ⟨l, d3, i3, k3, hl, -⟩ := binds_d hN hb gx
        simp only [c0, Bool.false_eq_true, if_false, i3, Option.bind_some]
        exact ⟨_, _, _, rfl, by omega, by dsimp only; omega⟩
  exact lp N 0 [] _ _ (by omega) (by omega) rfl (g1.at g0.1)
theorem drawPasses {N : Nat} (hN : 1099000000000 ≤ N) {b : List Int} (hb : b.length ≤ 1048576) : ∃ a f, m_s_DrawPasses N b = some (a, f) ∧ a.At.length ≤ 1048576 ∧ f.Fields.length ≤ 1048576 := by
  unfold m_s_DrawPasses
  obtain ⟨c, e0, g0⟩ := new_ok hN b hb
  obtain ⟨p, f, l, e1, hp, hf⟩ := drawFit hN hb
  have h1 := consts_len p.Args
  have h2 := ats_len p.Args 0
  obtain ⟨v, c4, e4, g4, hv⟩ := below_d (N := N) hb g0 6 (by omega)
  simp only [e0, Option.bind_some, e1, alpha_s hN p (by omega), e4]
  have ha1 : (alphaOf p).At.length ≤ 16 := by show (ats 0 p.Args).length ≤ _; omega
  have ha2 : (alphaOf p).Consts.length ≤ 16 := by show (consts p.Args).length ≤ _; omega
  split
  · obtain ⟨v', c5, e5, g5, -⟩ := below_d (N := N) hb (g4.at (c := c) g0.1) 7 (by omega)
    simp only [e5, Option.bind_some, app_sm (show (alphaOf p).At.length ≤ 4194304 by omega) (show [IntKind.i64.wrap (v' - 1)].length ≤ 4194304 by simp), m_s_DrawPasses_j1]
    exact ⟨_, _, rfl, by simp; omega, by dsimp only; omega⟩
  · split
    · obtain ⟨f', c5, e5, g5, hf'⟩ := factAny_d hN hb (g4.at (c := c) g0.1)
      simp only [e5, Option.bind_some, m_s_DrawPasses_j1]
      exact ⟨_, _, rfl, by dsimp only; omega, by dsimp only; omega⟩
    · split
      · obtain ⟨v', c5, e5, g5, -⟩ := small_d (N := N) hb (g4.at (c := c) g0.1)
        simp only [e5, Option.bind_some, app_sm (show (alphaOf p).Consts.length ≤ 4194304 by omega) (show [v'].length ≤ 4194304 by simp), app_sm (show (alphaOf p).At.length ≤ 4194304 by omega) (show [(0 : Int)].length ≤ 4194304 by simp), m_s_DrawPasses_j1]
        exact ⟨_, _, rfl, by simp; omega, by dsimp only; omega⟩
      · simp only [m_s_DrawPasses_j1]
        exact ⟨_, _, rfl, by dsimp only; omega, by dsimp only; omega⟩
end Go.Proofs.Ytelchcokfcdndaa
namespace Go.Proofs.Ytelchcokfcdndaa
open Eng
set_option linter.unusedVariables false
set_option linter.unusedSimpArgs false
def passAts (fs : List TVal) : List Int → List TVal → Bool
  | [], _ => true
  | _ :: _, [] => false
  | x :: t, c :: cs => (decide (0 ≤ x) && (decide (x < (fs.length : Int)) && decide (idx fs x = some c))) && passAts fs t cs
def passes (a : TAlpha) (f : TFact) : Bool := (seq f.Kind a.Kind && decide ((f.Fields.length : Int) = a.N)) && passAts f.Fields a.At a.Consts
theorem passes_i {N : Nat} (hN : 1099000000000 ≤ N) (a : TAlpha) (f : TFact) (h : a.At.length ≤ 1048576) : m_i_Passes N a f = some (passes a f) := by
  have lp : ∀ (n i : Nat), i ≤ a.At.length → a.At.length - i < n → m_i_Passes_l1 N a f n i = some (passAts f.Fields (a.At.drop i) (a.Consts.drop i)) := by
    intro n
    induction n with
    | zero => intro i _ h; omega
    | succ n ih =>
      intro i hi hn
      simp only [m_i_Passes_l1]
      by_cases hlt : i < a.At.length
      · have c1 : decide ((i : Int) < (a.At.length : Int)) = true := decide_eq_true (by omega)
        rw [List.drop_eq_getElem_cons hlt]
        simp only [c1, if_true, idx_nat_lt hlt, Option.bind_some, wr1 i (by omega), ih (i + 1) (by omega) (by omega)]
        by_cases hc : i < a.Consts.length
        · have c2 : decide ((a.Consts.length : Int) ≤ (i : Int)) = false := decide_eq_false (by omega)
          rw [List.drop_eq_getElem_cons hc, passAts]
          by_cases h0 : a.At[i] < 0
          · simp [h0, c2, show ¬ 0 ≤ a.At[i] by omega]
          · by_cases h1 : (f.Fields.length : Int) ≤ a.At[i]
            · simp [h0, h1, show ¬ a.At[i] < (f.Fields.length : Int) by omega]
            · obtain ⟨j, hj⟩ : ∃ j : Nat, a.At[i] = (j : Int) := ⟨a.At[i].toNat, by omega⟩
              have hjl : j < f.Fields.length := by omega
              rw [hj]
              rw [hj] at h0 h1
              simp only [h0, h1, c2, decide_false, Bool.false_eq_true, if_false, Option.bind_some, idx_nat_lt hjl, idx_nat_lt hc, eqT_TVal_eq, Option.some.injEq]
              by_cases he : f.Fields[j] = a.Consts[i] <;> simp [he, hjl]
        · have c2 : decide ((a.Consts.length : Int) ≤ (i : Int)) = true := decide_eq_true (by omega)
          rw [List.drop_of_length_le (show a.Consts.length ≤ i by omega), passAts]
          by_cases h0 : a.At[i] < 0
          · simp [h0, c2]
          · by_cases h1 : (f.Fields.length : Int) ≤ a.At[i] <;> simp [h0, h1, show a.Consts.length ≤ i by omega]
      · have c1 : decide ((i : Int) < (a.At.length : Int)) = false := decide_eq_false (by omega)
        rw [List.drop_of_length_le (show a.At.length ≤ i by omega)]
        simp only [c1, Bool.false_eq_true, if_false, passAts]
  have l0 := lp N 0 (by omega) (by omega)
  rw [List.drop_zero, List.drop_zero, show ((0 : Nat) : Int) = 0 from rfl] at l0
  unfold m_i_Passes passes
  rw [l0]
  cases seq f.Kind a.Kind <;> by_cases hl : (f.Fields.length : Int) = a.N <;> simp [hl]
end Go.Proofs.Ytelchcokfcdndaa
namespace Go.Proofs.Ytelchcokfcdndaa
open Eng
set_option linter.unusedVariables false
set_option linter.unusedSimpArgs false
theorem in0 (N : Nat) (a b c : Int) : m_s_l1In N a b c = some (decide (b ≤ a) && decide (a ≤ c)) := by
  unfold m_s_l1In
  by_cases h : b ≤ a <;> simp [h]
end Go.Proofs.Ytelchcokfcdndaa
namespace Go.Proofs.Ytelchcokfcdndaa
open Eng
set_option linter.unusedVariables false
set_option linter.unusedSimpArgs false
theorem passes_s {N : Nat} (hN : 1099000000000 ≤ N) (a : TAlpha) (f : TFact) (h : a.At.length ≤ 1048576) (hf : f.Fields.length ≤ 1048576) : m_s_Passes N a f = some (passes a f) := by
  have hwr : IntKind.i64.wrap ((f.Fields.length : Int) - 1) = (f.Fields.length : Int) - 1 := wr (by omega) (by omega)
  have lp : ∀ (n i : Nat), i ≤ a.At.length → a.At.length - i < n → m_s_Passes_l1 N a f n i = some (passAts f.Fields (a.At.drop i) (a.Consts.drop i)) := by
    intro n
    induction n with
    | zero => intro i _ h; omega
    | succ n ih =>
      intro i hi hn
      simp only [m_s_Passes_l1, in0, Option.bind_some, hwr]
      by_cases hlt : i < a.At.length
      · have c1 : decide ((i : Int) < (a.At.length : Int)) = true := decide_eq_true (by omega)
        rw [List.drop_eq_getElem_cons hlt]
        simp only [c1, if_true, idx_nat_lt hlt, Option.bind_some, wr1 i (by omega), ih (i + 1) (by omega) (by omega)]
        by_cases hc : i < a.Consts.length
        · have c2 : decide ((a.Consts.length : Int) ≤ (i : Int)) = false := decide_eq_false (by omega)
          rw [List.drop_eq_getElem_cons hc, passAts]
          by_cases h0 : a.At[i] < 0
          · simp [show ¬ a.Consts.length ≤ i by omega, show ¬ 0 ≤ a.At[i] by omega]
          · by_cases h1 : (f.Fields.length : Int) ≤ a.At[i]
            · simp [show ¬ a.Consts.length ≤ i by omega, show 0 ≤ a.At[i] by omega, show ¬ a.At[i] ≤ (f.Fields.length : Int) - 1 by omega, show ¬ a.At[i] < (f.Fields.length : Int) by omega]
            · obtain ⟨j, hj⟩ : ∃ j : Nat, a.At[i] = (j : Int) := ⟨a.At[i].toNat, by omega⟩
              have hjl : j < f.Fields.length := by omega
              rw [hj]
              rw [hj] at h0 h1
              have hj1 : (j : Int) ≤ (f.Fields.length : Int) - 1 := by omega
              have hj0 : (0 : Int) ≤ (j : Int) := by omega
              simp only [hj0, hj1, decide_true, Bool.and_self, Bool.not_true, c2, decide_false, Bool.false_eq_true, if_false, Option.bind_some, idx_nat_lt hjl, idx_nat_lt hc, eqT_TVal_eq, Option.some.injEq]
              by_cases he : f.Fields[j] = a.Consts[i] <;> simp [he, hjl]
        · have c2 : decide ((a.Consts.length : Int) ≤ (i : Int)) = true := decide_eq_true (by omega)
          rw [List.drop_of_length_le (show a.Consts.length ≤ i by omega), passAts]
          simp [show a.Consts.length ≤ i by omega]
      · have c1 : decide ((i : Int) < (a.At.length : Int)) = false := decide_eq_false (by omega)
        rw [List.drop_of_length_le (show a.At.length ≤ i by omega)]
        simp only [c1, Bool.false_eq_true, if_false, passAts]
  have l0 := lp N 0 (by omega) (by omega)
  rw [List.drop_zero, List.drop_zero, show ((0 : Nat) : Int) = 0 from rfl] at l0
  unfold m_s_Passes passes
  rw [l0]
  have hk : seq a.Kind f.Kind = seq f.Kind a.Kind := by rw [seq_eq, seq_eq]; simp [eq_comm]
  rw [hk]
  have hd : decide (a.N = (f.Fields.length : Int)) = decide ((f.Fields.length : Int) = a.N) := by rw [decide_eq_decide]; exact eq_comm
  rw [hd]
  cases seq f.Kind a.Kind <;> cases decide ((f.Fields.length : Int) = a.N) <;> simp
end Go.Proofs.Ytelchcokfcdndaa
namespace Go.Proofs.Ytelchcokfcdndaa
open Eng
set_option linter.unusedVariables false
set_option linter.unusedSimpArgs false
def zv : TVal := ⟨0, 0, ⟨#[]⟩⟩
def look (p : List TBind) (n : ByteArray) : TVal × Bool := match p.find? (fun b => seq b.Name n) with
  | some b => (b.V, true)
  | none => (zv, false)
theorem look_cons (b : TBind) (p : List TBind) (n : ByteArray) : look (b :: p) n = if seq b.Name n = true then (b.V, true) else look p n := by
  unfold look; rw [List.find?_cons]
  cases seq b.Name n <;> simp
def matchArgs (b0 : List TBind) : List TArg → List TVal → List TBind → List TBind × Bool
  | a :: as, v :: vs, s =>
    if a.K = 2 then (if eqT_TVal a.V v = true then matchArgs b0 as vs s else (b0, false))
    else if a.K = 1 then (if (look s a.S).2 = true then (if eqT_TVal (look s a.S).1 v = true then matchArgs b0 as vs s else (b0, false)) else matchArgs b0 as vs (s ++ [⟨a.S, v⟩]))
    else matchArgs b0 as vs s
  | _, _, s => (s, true)
def matchPat (p : TPat) (f : TFact) (b : List TBind) : List TBind × Bool := if seq p.Kind f.Kind = true ∧ p.Args.length = f.Fields.length then matchArgs b p.Args f.Fields b else (b, false)
end Go.Proofs.Ytelchcokfcdndaa
namespace Go.Proofs.Ytelchcokfcdndaa
open Eng
set_option linter.unusedVariables false
set_option linter.unusedSimpArgs false
theorem match_ats {b0 : List TBind} : ∀ (as : List TArg) (vs : List TVal) (s : List TBind) (pre : List TVal), (matchArgs b0 as vs s).2 = true → as.length = vs.length → passAts (pre ++ vs) (ats pre.length as) (consts as) = true
  | [], vs, s, pre, _, _ => rfl
  | a :: as, [], s, pre, _, hl => by simp at hl
  | a :: as, v :: vs, s, pre, h, hl => by
    have hl' : as.length = vs.length := by simpa using hl
    have next : ∀ s', (matchArgs b0 as vs s').2 = true → passAts (pre ++ v :: vs) (ats (pre.length + 1) as) (consts as) = true := fun s' h' => by
      have := match_ats as vs s' (pre ++ [v]) h' hl'
      simpa using this
    unfold matchArgs at h
    unfold ats consts
    by_cases k2 : a.K = 2
    · rw [if_pos k2] at h
      rw [if_pos k2, if_pos k2]
      by_cases he : eqT_TVal a.V v = true
      · rw [if_pos he] at h
        rw [eqT_TVal_eq, decide_eq_true_eq] at he
        unfold passAts
        have e1 : idx (pre ++ v :: vs) (pre.length : Int) = some a.V := by
          rw [idx_nat_lt (show pre.length < (pre ++ v :: vs).length by simp), he]; simp
        rw [next s h, e1, decide_eq_true (show (0 : Int) ≤ (pre.length : Int) by omega), decide_eq_true (show (pre.length : Int) < ((pre ++ v :: vs).length : Int) by simp; omega)]
        simp
      · rw [if_neg he] at h; cases h
    · rw [if_neg k2] at h
      rw [if_neg k2, if_neg k2]
      split at h
      · split at h
        · split at h
          · exact next s h
          · cases h
        · exact next _ h
      · exact next s h
theorem match_passes {p : TPat} {f : TFact} {b : List TBind} (h : (matchPat p f b).2 = true) : passes (alphaOf p) f = true := by
  unfold matchPat at h
  split at h
  · rename_i hc
    have := match_ats p.Args f.Fields b [] h hc.2
    have hk : seq f.Kind p.Kind = true := by
      have := hc.1
      rw [seq_eq, decide_eq_true_eq] at this ⊢
      exact this.symm
    show ((seq f.Kind p.Kind && decide ((f.Fields.length : Int) = (p.Args.length : Int))) && passAts f.Fields (ats 0 p.Args) (consts p.Args)) = true
    rw [hk, decide_eq_true (show (f.Fields.length : Int) = (p.Args.length : Int) by omega)]
    simpa using this
  · cases h
end Go.Proofs.Ytelchcokfcdndaa
namespace Go.Proofs.Ytelchcokfcdndaa
open Eng
set_option linter.unusedVariables false
set_option linter.unusedSimpArgs false
theorem look_i {N : Nat} (hN : 1099000000000 ≤ N) (p : List TBind) (n : ByteArray) (hl : p.length ≤ 4294967296) : m_i_BindOf N p n = some (look p n) := by
  unfold m_i_BindOf
  have : ∀ (k i : Nat), i ≤ p.length → p.length - i < k → m_i_BindOf_l1 N p n k i = some (look (p.drop i) n) := by
    intro k
    induction k with
    | zero => intro i _ h; omega
    | succ k ih =>
      intro i hi hk
      simp only [m_i_BindOf_l1]
      by_cases hlt : i < p.length
      · have c1 : decide ((i : Int) < (p.length : Int)) = true := decide_eq_true (by omega)
        rw [List.drop_eq_getElem_cons hlt, look_cons]
        simp only [c1, if_true, idx_nat_lt hlt, Option.bind_some, wr1 i (by omega), ih (i + 1) (by omega) (by omega)]
        cases seq p[i].Name n <;> rfl
      · have c1 : decide ((i : Int) < (p.length : Int)) = false := decide_eq_false (by omega)
        simp only [c1, Bool.false_eq_true, if_false]
        rw [List.drop_of_length_le (by omega)]; rfl
  exact this N 0 (by omega) (by omega)
theorem match_loopI {N : Nat} (hN : 1099000000000 ≤ N) (p : TPat) (f : TFact) (b : List TBind) (he : p.Args.length = f.Fields.length) (hl : p.Args.length ≤ 1048576) (hb : b.length ≤ 2147483648) : ∀ (n i : Nat) (s : List TBind), i ≤ p.Args.length → p.Args.length - i < n → s.length ≤ 2147483648 + i →
    m_i_MatchPat_l1 N p f b n s i = some (matchArgs b (p.Args.drop i) (f.Fields.drop i) s) := by
  intro n
  induction n with
  | zero => intro i s _ h; omega
  | succ n ih =>
    intro i s hi hn hs
    simp only [m_i_MatchPat_l1]
    by_cases hlt : i < p.Args.length
    · have c1 : decide ((i : Int) < (p.Args.length : Int)) = true := decide_eq_true (by omega)
      have hlt' : i < f.Fields.length := by omega
      rw [List.drop_eq_getElem_cons hlt, List.drop_eq_getElem_cons hlt', matchArgs]
      simp only [c1, if_true, idx_nat_lt hlt, idx_nat_lt hlt', Option.bind_some, look_i hN s _ (show s.length ≤ 4294967296 by omega), m_sl_Clone_Si_Bind_i_Bind, app_nil (show b.length ≤ 4294967296 by omega), app_ok (show s.length + [(⟨p.Args[i].S, f.Fields[i]⟩ : TBind)].length ≤ 4294967296 by simp; omega), wr1 i (by omega), andS, orS]
      have ih1 := ih (i + 1) s (by omega) (by omega) (by omega)
      have ih2 := ih (i + 1) (s ++ [⟨p.Args[i].S, f.Fields[i]⟩]) (by omega) (by omega) (by simp; omega)
      by_cases k2 : p.Args[i].K = 2
      · have k1 : ¬ p.Args[i].K = 1 := by omega
        simp only [k2, k1, decide_true, decide_false, if_true, if_false, Bool.true_and, Bool.false_and, Bool.or_false, Bool.false_eq_true, Option.bind_some, show ¬ (2 : Int) = 1 by omega]
        cases eqT_TVal p.Args[i].V f.Fields[i] with
        | true => simpa using ih1
        | false => simp
      · by_cases k1 : p.Args[i].K = 1
        · simp only [k1, decide_true, decide_false, if_true, if_false, Bool.true_and, Bool.false_and, Bool.false_or, Bool.false_eq_true, Option.bind_some, show ¬ (1 : Int) = 2 by omega]
          cases (look s p.Args[i].S).2 with
          | true =>
            simp only [if_true, Bool.not_true, Bool.true_and, Bool.false_eq_true, if_false]
            cases eqT_TVal (look s p.Args[i].S).1 f.Fields[i] with
            | true => simpa using ih1
            | false => simp
          | false => simpa using ih2
        · simp only [k1, k2, decide_false, if_false, Bool.false_and, Bool.false_or, Bool.or_false, Bool.false_eq_true, Option.bind_some]
          simpa using ih1
    · have c1 : decide ((i : Int) < (p.Args.length : Int)) = false := decide_eq_false (by omega)
      simp only [c1, Bool.false_eq_true, if_false]
      rw [List.drop_of_length_le (by omega)]
      rfl
theorem seq_comm' (a b : ByteArray) : seq a b = seq b a := by rw [seq_eq, seq_eq]; simp [eq_comm]
theorem match_i {N : Nat} (hN : 1099000000000 ≤ N) (p : TPat) (f : TFact) (b : List TBind) (hl : p.Args.length ≤ 1048576) (hb : b.length ≤ 2147483648) : m_i_MatchPat N p f b = some (matchPat p f b) := by
  unfold m_i_MatchPat matchPat m_sl_Clone_Si_Bind_i_Bind
  rw [app_nil (by omega), seq_comm' f.Kind p.Kind]
  simp only [Option.bind_some, orS]
  cases hk : seq p.Kind f.Kind with
  | false => simp
  | true =>
    by_cases he : p.Args.length = f.Fields.length
    · have he' : decide ((f.Fields.length : Int) = (p.Args.length : Int)) = true := decide_eq_true (by omega)
      have := (match_loopI hN p f b he hl hb N 0 b (by omega) (by omega) (by omega))
      simp only [he', he, Bool.not_true, Bool.or_false, Bool.false_eq_true, if_false, true_and, if_true]
      simpa using this
    · have he' : decide ((f.Fields.length : Int) = (p.Args.length : Int)) = false := decide_eq_false (by omega)
      simp [he', he]
end Go.Proofs.Ytelchcokfcdndaa
namespace Go.Proofs.Ytelchcokfcdndaa
open Eng
set_option linter.unusedVariables false
set_option linter.unusedSimpArgs false
theorem law_FnAlphas {N : Nat} (hN : 1099000000000 ≤ N) (b : List Int) : m_l_FnAlphas N b = some true := by
  unfold m_l_FnAlphas m_l_big
  by_cases hb : b.length ≤ 1048576
  · have c1 : decide (1048576 < (b.length : Int)) = false := decide_eq_false (by omega)
    obtain ⟨p, f, l, e1, hp, hl⟩ := drawMatch hN hb
    obtain ⟨x, y, e2, hx⟩ := drawSame hN hb
    obtain ⟨q, g, e3, hq, hg⟩ := drawPasses hN hb
    have hpl : p.Args.length ≤ 1048576 := by omega
    simp only [c1, Option.bind_some, Bool.false_eq_true, if_false, e1, match_i hN p f l hpl (by omega), alpha_i hN p hpl, e2, e3, alpha_s hN p hpl, sameA_i hN _ _ (alphaOf_sz hpl), decide_true, Bool.not_true, sameA_i hN x y hx, sameA_s hN x y hx, bne_self_eq_false, passes_i hN q g hq, passes_s hN q g hq hg, m_l_FnAlphas_j1, passes_i hN (alphaOf p) f (alphaOf_sz hpl).2]
    cases hm : (matchPat p f l).2 with
    | false => simp
    | true => simp [match_passes hm]
  · have c1 : decide (1048576 < (b.length : Int)) = true := decide_eq_true (by omega)
    simp only [c1, Option.bind_some, if_true]
namespace fnAlphas
theorem law {x0 : List Int} (w0 : (WfL (WfI .u8)) x0) : m_l_FnAlphas 1099511627776 x0 = some true := law_FnAlphas (by omega) x0
end fnAlphas
end Go.Proofs.Ytelchcokfcdndaa
