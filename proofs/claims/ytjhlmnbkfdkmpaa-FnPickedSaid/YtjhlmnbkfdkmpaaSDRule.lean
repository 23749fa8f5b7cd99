/- Plain laws: draws: rules. -/
import Derived.Test.YtjhlmnbkfdkmpaaSDAct
import Derived.Test.YtjhlmnbkfdkmpaaSPosVarsS
import Derived.Test.YtjhlmnbkfdkmpaaSCount
import Derived.Test.YtjhlmnbkfdkmpaaSKnown
namespace Go.Proofs.Ytjhlmnbkfdkmpaa
open Eng
set_option linter.unusedVariables false
set_option linter.unusedSimpArgs false
def shRule (r : TRule) : Prop := r.Name.size ≤ 16 ∧ (r.Pats.length ≤ 16 ∧ ∀ p ∈ r.Pats, shPat p) ∧ (r.Conds.length ≤ 16 ∧ ∀ c ∈ r.Conds, shCond c) ∧ r.Acts.length ≤ 16 ∧ ∀ a ∈ r.Acts, shAct a
/-- A term of which a variable is among vs. -/
def fitTerm (vs : List ByteArray) (a : TArg) : Prop := (∃ v, drVal v ∧ a = ⟨2, ⟨#[]⟩, v⟩) ∨ ∃ s ∈ vs, a = ⟨1, s, ⟨0, 0, ⟨#[]⟩⟩⟩
theorem fit_ok {N : Nat} (hN : 1099000000000 ≤ N) {vs : List ByteArray} (hv : vs.length ≤ 4194304) {a : TArg} (h : drTerm a) : ∃ a', m_s_l9Fit N a vs = some a' ∧ fitTerm vs a' := by
  unfold m_s_l9Fit
  rw [known_s hN a vs (by omega), Option.bind_some]
  rcases h with ⟨v, hv, rfl⟩ | ⟨s, hs, rfl⟩
  · exact ⟨_, by simp [known], .inl ⟨v, hv, rfl⟩⟩
  · by_cases hm : s ∈ vs
    · exact ⟨_, by simp [known, hm], .inr ⟨s, hm, rfl⟩⟩
    · have e1 : known vs ⟨1, s, ⟨0, 0, ⟨#[]⟩⟩⟩ = false := by simp [known, hm]
      simp only [e1, Bool.false_eq_true, if_false]
      cases vs with
      | nil => exact ⟨_, rfl, .inl ⟨⟨1, 1, ⟨#[]⟩⟩, .inl ⟨1, by omega, by omega, rfl⟩, rfl⟩⟩
      | cons x t =>
        have e2 : decide (((x :: t).length : Int) = 0) = false := decide_eq_false (by simp only [List.length_cons]; omega)
        have e3 : idx (x :: t) 0 = some x := idx_nat_lt (xs := x :: t) (i := 0) (by simp)
        simp only [e2, Bool.false_eq_true, if_false, e3, Option.bind_some]
        exact ⟨_, rfl, .inr ⟨x, by simp, rfl⟩⟩
theorem fitTerm_sz {vs : List ByteArray} (hv : ∀ s ∈ vs, s.size ≤ 16) {a : TArg} (h : fitTerm vs a) : shArg a := by
  rcases h with ⟨v, h, rfl⟩ | ⟨s, h, rfl⟩
  · exact ⟨Nat.zero_le _, drVal_sz h⟩
  · exact ⟨hv s h, Nat.zero_le _⟩
def drPats (l : List TPat) : Prop := ∃ ps ns, l = ps ++ ns ∧ 1 ≤ ps.length ∧ ps.length ≤ 3 ∧ ns.length ≤ 1 ∧ (∀ p ∈ ps, drPat false p) ∧ ∀ p ∈ ns, drPat true p
theorem drPats_pat {l : List TPat} (h : drPats l) : ∀ p ∈ l, ∃ n, drPat n p := by
  obtain ⟨ps, ns, rfl, -, -, -, h1, h2⟩ := h
  intro p hp
  rcases List.mem_append.1 hp with h | h
  · exact ⟨_, h1 p h⟩
  · exact ⟨_, h2 p h⟩
theorem drPats_len {l : List TPat} (h : drPats l) : 1 ≤ l.length ∧ l.length ≤ 4 := by
  obtain ⟨ps, ns, rfl, h1, h2, h3, -⟩ := h
  rw [List.length_append]; omega
theorem nArgs_le {B : Nat} : ∀ {l : List TPat}, (∀ p ∈ l, p.Args.length ≤ B) → nArgs l ≤ l.length * B
  | [], _ => by simp [nArgs]
  | p :: t, h => by
    have h1 := nArgs_le (l := t) fun q hq => h q (by simp [hq])
    have h2 := h p (by simp)
    have h3 : nArgs (p :: t) = p.Args.length + nArgs t := by simp [nArgs]
    rw [h3, List.length_cons, Nat.succ_mul]; omega
theorem drPats_args {l : List TPat} (h : drPats l) : nArgs l ≤ 8 := by
  have h1 := nArgs_le (B := 2) fun p hp => (drPats_pat h p hp).elim fun n hn => hn.2.2.1
  have := drPats_len h
  omega
theorem argVars_size {B : Nat} {l : List TArg} (h : ∀ a ∈ l, a.S.size ≤ B) : ∀ x ∈ argVars l, x.size ≤ B := fun x hx => by
  obtain ⟨a, ha, _, rfl⟩ := mem_argVars.1 hx; exact h a ha
theorem posNames_size {B : Nat} : ∀ {l : List TPat}, (∀ p ∈ l, ∀ a ∈ p.Args, a.S.size ≤ B) → ∀ x ∈ posNames l, x.size ≤ B
  | [], _, x, hx => by simp [posNames] at hx
  | p :: t, h, x, hx => by
    unfold posNames at hx
    split at hx
    · exact posNames_size (fun q hq => h q (by simp [hq])) x hx
    · rcases List.mem_append.1 hx with hx | hx
      · exact argVars_size (h p (by simp)) x hx
      · exact posNames_size (fun q hq => h q (by simp [hq])) x hx
/-- What patterns bind. -/
def bnd (l : List TPat) : List ByteArray := (posNames l).foldl once []
theorem bnd_sz {l : List TPat} (h : drPats l) : ∀ s ∈ bnd l, s.size ≤ 16 := onces_size (posNames_size fun p hp a ha => (drPats_pat h p hp).elim fun n hn => (drArg_sz (hn.2.2.2 a ha)).1) (by simp)
theorem bnd_len {l : List TPat} (h : drPats l) : (bnd l).length ≤ 8 := by
  have h1 := onces_len (posNames l) []
  have h2 := posNames_len l
  have h3 := drPats_args h
  simp only [List.length_nil] at h1
  unfold bnd; omega
def drRule (nm : ByteArray) (r : TRule) : Prop := r.Name = nm ∧ r.Sal ∈ ([0, 0, 5, (-5), 100] : List Int) ∧ drPats r.Pats ∧ (r.Conds.length ≤ 1 ∧ ∀ c ∈ r.Conds, 1 ≤ c.Op ∧ c.Op ≤ 3 ∧ fitTerm (bnd r.Pats) c.L ∧ fitTerm (bnd r.Pats) c.R) ∧
  (1 ≤ r.Acts.length ∧ r.Acts.length ≤ 3 ∧ ∀ a ∈ r.Acts, actW (fitTerm (bnd r.Pats)) (posCount r.Pats) a)
theorem drRule_sz {nm : ByteArray} {r : TRule} (hn : nm.size ≤ 16) (h : drRule nm r) : shRule r := by
  obtain ⟨h1, _, h3, ⟨h4, h4'⟩, h5, h6, h7⟩ := h
  have hT : ∀ a, fitTerm (bnd r.Pats) a → shArg a := fun a ha => fitTerm_sz (bnd_sz h3) ha
  have := drPats_len h3
  exact ⟨by rw [h1]; exact hn, ⟨by omega, fun p hp => (drPats_pat h3 p hp).elim fun n hn => drPat_sz hn⟩, ⟨by omega, fun c hc => ⟨hT _ (h4' c hc).2.2.1, hT _ (h4' c hc).2.2.2⟩⟩, by omega, fun a ha => actW_sz hT (h7 a ha)⟩
/-- The loop that fits the arguments of an act. -/
theorem fits {N : Nat} (hN : 1099000000000 ≤ N) {b : List Int} {vs : List ByteArray} (hv : vs.length ≤ 4194304) (s11 : List TAct) (s12 : Int) (K : List TAct → Int → Int → Int → Option (TRule × Tl1Cur)) (x10 : TAct × Tl1Cur) {R : TRule → Prop} {m : Nat} (hm : m ≤ 4194304)
    (hK : ∀ es : List TExpr, es.length = m → (∀ e ∈ es, exprW (fitTerm vs) e) → Dr b R ((app s11 [⟨x10.1.Kind, x10.1.Name, es, x10.1.N, x10.1.Undo⟩]).bind fun x14 => K x14 (IntKind.i64.wrap (s12 - 1)) x10.2.i x10.2.h)) :
    ∀ (n : Nat) (todo done : List TExpr), todo.length < n → done.length + todo.length = m → (∀ e ∈ done, exprW (fitTerm vs) e) → (∀ e ∈ todo, exprW drTerm e) → Dr b R (m_s_l9Draw_l5 N vs s11 s12 K x10 n (done ++ todo) (done.length : Int)) := by
  intro n
  induction n with
  | zero => intro _ _ h; omega
  | succ n ih =>
    intro todo done hn hl hd ht
    simp only [m_s_l9Draw_l5]
    cases todo with
    | nil =>
      have e1 : decide ((done.length : Int) < ((done ++ ([] : List TExpr)).length : Int)) = false := decide_eq_false (by simp)
      rw [e1]
      simp only [Bool.false_eq_true, if_false, List.append_nil]
      exact hK done (by simpa using hl) hd
    | cons e t =>
      have e1 : decide ((done.length : Int) < ((done ++ e :: t).length : Int)) = true := decide_eq_true (by simp; omega)
      have e2 : idx (done ++ e :: t) (done.length : Int) = some e := by
        rw [idx_nat_lt (show done.length < (done ++ e :: t).length by simp)]; simp
      have hset : ∀ y, (done ++ e :: t).set ((done.length : Int)).toNat y = (done ++ [y]) ++ t := fun y => by
        rw [Int.toNat_natCast, List.set_append_right _ _ (Nat.le_refl _)]; simp
      simp only [List.length_cons] at hn hl
      rw [e1]
      simp only [if_true]
      refine .bindO e2 ?_
      obtain ⟨hL, hR⟩ := ht e (by simp)
      obtain ⟨l', el, hl'⟩ := fit_ok hN hv hL
      refine .bindO el ?_
      have next : ∀ y, exprW (fitTerm vs) y → Dr b R (m_s_l9Draw_l5 N vs s11 s12 K x10 n ((done ++ e :: t).set ((done.length : Int)).toNat y) (IntKind.i64.wrap ((done.length : Int) + 1))) := by
        intro y hy
        rw [hset, wr1 _ (by omega)]
        have := ih t (done ++ [y]) (by omega) (by simp; omega) (mem_snoc hd hy) (fun a ha => ht a (by simp [ha]))
        simpa using this
      rcases hR with ⟨hO, hR⟩ | ⟨hO, hR⟩
      · have e3 : (!seq e.Op ⟨#[]⟩) = false := by rw [seq_eq, hO]; simp
        rw [e3]
        exact next _ ⟨hl', .inl ⟨hO, hR⟩⟩
      · have e3 : (!seq e.Op ⟨#[]⟩) = true := by
          have : e.Op ≠ ⟨#[]⟩ := (show ∀ s ∈ ([⟨#[43]⟩, ⟨#[45]⟩] : List ByteArray), s ≠ ⟨#[]⟩ by decide) _ hO
          rw [seq_eq]; simp [this]
        rw [e3]
        obtain ⟨r', er, hr'⟩ := fit_ok hN hv hR
        exact .bindO er (next _ ⟨hl', .inr ⟨hO, hr'⟩⟩)
theorem posVars_d {N : Nat} (hN : 1099000000000 ≤ N) (r : TRule) (h : drPats r.Pats) : m_s_PosVars N r = some (bnd r.Pats) := by
  have h1 := drPats_len h
  have h2 := drPats_args h
  exact posVars_s hN r (by omega) (by omega) fun p hp => by
    obtain ⟨n, hn⟩ := drPats_pat h p hp
    have := hn.2.2.1
    omega
theorem rule_d {N : Nat} (hN : 1099000000000 ≤ N) {b : List Int} (hb : b.length ≤ 1048576) {c : Tl1Cur} (g : GC b c) (nm : ByteArray) : Dr b (drRule nm) (m_s_l9Draw N c nm) := by
  unfold m_s_l9Draw
  refine (int_d hb g _ (by decide)).bind fun sal d gd hs => (below_d hb (gd.at g.1) 3 (by omega)).bind fun v0 e0 ge0 q0 => ?_
  -- the acts
  have l4 : ∀ (pats : List TPat) (conds : List TCond), drPats pats → (conds.length ≤ 1 ∧ ∀ c ∈ conds, 1 ≤ c.Op ∧ c.Op ≤ 3 ∧ fitTerm (bnd pats) c.L ∧ fitTerm (bnd pats) c.R) →
      ∀ (n : Nat) (s : List TAct) (k x h : Int), 0 ≤ k → k < n → 1 ≤ s.length + k → s.length + k ≤ 3 → (∀ a ∈ s, actW (fitTerm (bnd pats)) (posCount pats) a) → GC b ⟨c.b, x, h⟩ → Dr b (drRule nm) (m_s_l9Draw_l4 N c nm (sal, d) pats (bnd pats) conds n s k x h) := by
    intro pats conds hp hc n
    have hpl := drPats_len hp
    induction n with
    | zero => intro s k x h h0 h1; omega
    | succ n ih =>
      intro s k x h h0 h1 h2 h3 ha gx
      simp only [m_s_l9Draw_l4]
      refine .ite (fun hk => ?_) (fun hk => ?_)
      · have hk := of_decide_eq_true hk
        refine .bindO (count_s hN _ (show pats.length ≤ 1048576 by omega)) ((act_d hN hb gx _).bind fun a f gf qa => ?_)
        have hal := qa.1
        have := fits hN (b := b) (vs := bnd pats) (by have := bnd_len hp; omega) s k (m_s_l9Draw_l4 N c nm (sal, d) pats (bnd pats) conds n) (a, f) (R := drRule nm) (m := a.Args.length) (by omega) (fun es hl he => by
          refine .bindO (app_sm (by omega) (by simp)) ?_
          rw [wrm hk (by omega)]
          refine ih _ (k - 1) _ _ (by omega) (by omega) (by simp; omega) (by simp; omega) (mem_snoc ha ?_) (gf.at (c := ⟨c.b, x, h⟩) gx.1)
          refine ⟨by dsimp only; omega, he, ?_⟩
          rcases qa.2.2 with h | h | h
          · exact .inl ⟨h.1, h.2.1, by have := h.2.2.1; rw [this] at hl; exact List.eq_nil_of_length_eq_zero hl, h.2.2.2⟩
          · exact .inr (.inl ⟨h.1, h.2.1, by have := h.2.2.1; rw [this] at hl; exact List.eq_nil_of_length_eq_zero hl, h.2.2.2⟩)
          · exact .inr (.inr h)) N a.Args [] (by omega) (by simp) (by simp) qa.2.1
        exact this
      · have hk := of_decide_eq_false hk
        exact .ret gx ⟨rfl, hs, hp, hc, by dsimp only; omega, by dsimp only; omega, ha⟩
  have j3 : ∀ (pats : List TPat) (conds : List TCond), drPats pats → (conds.length ≤ 1 ∧ ∀ c ∈ conds, 1 ≤ c.Op ∧ c.Op ≤ 3 ∧ fitTerm (bnd pats) c.L ∧ fitTerm (bnd pats) c.R) → ∀ (x h : Int), GC b ⟨c.b, x, h⟩ → Dr b (drRule nm) (m_s_l9Draw_j3 N c nm (sal, d) pats (bnd pats) conds x h) := by
    intro pats conds hp hc x h gx
    unfold m_s_l9Draw_j3
    refine (below_d hb gx 3 (by omega)).bind fun v e ge q => ?_
    dsimp only
    rw [wr (show -9223372036854775808 ≤ 1 + v by omega) (by omega)]
    exact l4 pats conds hp hc N [] _ _ _ (by omega) (by omega) (by simp; omega) (by simp; omega) (by simp) (ge.at (c := ⟨c.b, x, h⟩) gx.1)
  have j2 : ∀ (pats : List TPat), drPats pats → ∀ (x h : Int), GC b ⟨c.b, x, h⟩ → Dr b (drRule nm) (m_s_l9Draw_j2 N c nm (sal, d) pats x h) := by
    intro pats hp x h gx
    unfold m_s_l9Draw_j2
    have hv : (bnd pats).length ≤ 4194304 := by have := bnd_len hp; omega
    refine .bindO (posVars_d hN _ hp) ((once_d hb gx 3).bind fun v e ge _ => .ite (fun _ => ?_) (fun _ => ?_))
    · refine (cond_d hb (ge.at (c := ⟨c.b, x, h⟩) gx.1)).bind fun cd f gf qc => ?_
      obtain ⟨l', el, hl⟩ := fit_ok hN hv qc.2.2.1
      obtain ⟨r', er, hr⟩ := fit_ok hN hv qc.2.2.2
      refine .bindO el (.bindO er (.bindO (app_sm (by simp) (by simp)) ?_))
      exact j3 pats _ hp ⟨by simp, by simp; exact ⟨qc.1, qc.2.1, hl, hr⟩⟩ _ _ (gf.at (c := ⟨c.b, x, h⟩) gx.1)
    · exact j3 pats [] hp ⟨by simp, by simp⟩ _ _ (ge.at (c := ⟨c.b, x, h⟩) gx.1)
  have l1 : ∀ (n : Nat) (s : List TPat) (k x h : Int), 0 ≤ k → k < n → 1 ≤ s.length + k → s.length + k ≤ 3 → (∀ p ∈ s, drPat false p) → GC b ⟨c.b, x, h⟩ → Dr b (drRule nm) (m_s_l9Draw_l1 N c nm (sal, d) n s k x h) := by
    intro n
    induction n with
    | zero => intro s k x h h0 h1; omega
    | succ n ih =>
      intro s k x h h0 h1 h2 h3 hp gx
      simp only [m_s_l9Draw_l1]
      refine .ite (fun hk => ?_) (fun hk => ?_)
      · have hk := of_decide_eq_true hk
        refine (pat_d hN hb gx false).bind fun p f gf qp => .bindO (app_sm (by omega) (by simp)) ?_
        rw [wrm hk (by omega)]
        exact ih _ (k - 1) _ _ (by omega) (by omega) (by simp; omega) (by simp; omega) (mem_snoc hp qp) (gf.at (c := ⟨c.b, x, h⟩) gx.1)
      · have hk := of_decide_eq_false hk
        refine (once_d hb gx 3).bind fun v f gf _ => .ite (fun _ => ?_) (fun _ => ?_)
        · refine (pat_d hN hb (gf.at (c := ⟨c.b, x, h⟩) gx.1) true).bind fun p f' gf' qp => .bindO (app_sm (by omega) (by simp)) ?_
          exact j2 _ ⟨s, [p], rfl, by omega, by omega, by simp, hp, by simpa using qp⟩ _ _ (gf'.at (c := ⟨c.b, x, h⟩) gx.1)
        · exact j2 _ ⟨s, [], by simp, by omega, by omega, by simp, hp, by simp⟩ _ _ (gf.at (c := ⟨c.b, x, h⟩) gx.1)
  dsimp only
  rw [wr (show -9223372036854775808 ≤ 1 + v0 by omega) (by omega)]
  exact l1 N [] _ _ _ (by omega) (by omega) (by simp; omega) (by simp; omega) (by simp) (ge0.at g.1)
end Go.Proofs.Ytjhlmnbkfdkmpaa
