/- Plain laws, one after the other: PLRules. -/
import Derived.Test.YteipbimepilcfaaGreatDoorTRules
import Derived.Test.YteipbimepilcfaaGreatDoorPLib
import Derived.Test.YteipbimepilcfaaGreatDoorWRulesPur
import Derived.Test.YteipbimepilcfaaGreatDoorWRulesMod
namespace Go.Proofs.YteipbimepilcfaaGreatDoor
open Eng
set_option linter.unusedVariables false
set_option linter.unusedSimpArgs false
def texts : List TRule → ByteArray
  | [] => ⟨#[]⟩
  | r :: t => ruleText r ++ texts t
def defText (d : TDef) : ByteArray := if okDef d = true then ((⟨#[100, 101, 102, 32]⟩ ++ d.Name) ++ ⟨#[46, 10]⟩) ++ texts d.Rules else ⟨#[]⟩
theorem wrt_ok {s t : ByteArray} (h : s.size + t.size ≤ 140737488355328) : wrt s t = some (s ++ t) := by unfold wrt; rw [if_pos h]
theorem ba_nilL (a : ByteArray) : (⟨#[]⟩ : ByteArray) ++ a = a := by apply ByteArray.ext; simp [ByteArray.data_append]
theorem def_has {d : TDef} (h : okDef d = true) : d.Name.size ≤ 12 ∧ d.Rules.length ≤ 12 := by
  unfold okDef at h
  simp only [Bool.and_eq_true, decide_eq_true_eq] at h
  exact ⟨okName_len h.1, by omega⟩
theorem defT_i {N : Nat} (hN : 1099000000000 ≤ N) (d : TDef) (hs : SzDef d) : m_i_DefText N d = some (defText d) := by
  unfold m_i_DefText defText
  rw [def_i hN d hs, Option.bind_some]
  cases h : okDef d with
  | false => simp
  | true =>
    obtain ⟨h1, h2⟩ := def_has h
    have hr := okDef_rule h
    simp only [Bool.not_true, Bool.false_eq_true, if_false, if_true]
    rw [cat_k (by show 4 + _ ≤ _; omega), Option.bind_some, cat_k (by rw [ByteArray.size_append]; show 4 + _ + 2 ≤ _; omega), Option.bind_some, wrt_ok (by simp only [ByteArray.size_append]; show 0 + (4 + _ + 2) ≤ _; omega), Option.bind_some, ba_nilL]
    refine (lp' hN d.Rules (by omega) (m_i_DefText_l1 N d) (fun t s => some (s ++ texts t)) (fun s t => s.size + t.length * 5000 ≤ 1000000) _ (by simp only [ByteArray.size_append]; show 4 + _ + 2 + _ ≤ _; omega) (fun n s i x t g1 g2 g3 g4 g5 g6 gI ih => ?_) (fun n s i g1 g2 gI => ?_))
    · simp only [List.length_cons] at gI
      have hx := ruleText_len (hr x g2)
      simp only [m_i_DefText_l1, g5, if_true, g4, Option.bind_some, ruleBody_i hN x (hs.2.2 x g2) (hr x g2), g6]
      rw [wrt_ok (by omega), Option.bind_some, ih _ (by rw [ByteArray.size_append]; omega), ba_assoc]
      rfl
    · simp only [m_i_DefText_l1, g2, Bool.false_eq_true, if_false, texts, ba_nil]
set_option maxRecDepth 100000
abbrev D (s : ByteArray) : Bs := s.data.toList
theorem D_app (a b : ByteArray) : D (a ++ b) = D a ++ D b := by simp [D, ByteArray.data_append]
theorem edge_letter {r : Bs} (h : Edge wide r) : Edge letter r := fun b hb => by
  have := h b hb
  unfold wide at this
  simp only [Bool.or_eq_false_iff] at this
  exact this.1
theorem edge_digit {r : Bs} (h : Edge wide r) : Edge digitB r := fun b hb => by
  have := h b hb
  have key : ∀ b : UInt8, wide b = false → digitB b = false := all8 (by decide)
  exact key b this
theorem edge_mk {b : UInt8} {r : Bs} (h : isMk b = true) (h9 : b ≠ 95) : Edge wide (b :: r) := fun c hc => by
  simp at hc; subst hc
  have key : ∀ b : UInt8, isMk b = true → b ≠ 95 → wide b = false := all8 (by decide)
  exact key b h h9
theorem edge_bl {b : UInt8} {r : Bs} (h : blankB b = true) : Edge wide (b :: r) := fun c hc => by
  simp at hc; subst hc
  have key : ∀ b : UInt8, blankB b = true → wide b = false := all8 (by decide)
  exact key b h
theorem Lx.mark' {b : UInt8} {r : Bs} {ts : Toks} (hb : isMk b = true) (h9 : b ≠ 45) (h : Lx r ts) : Lx (b :: r) (mkT (bA [b]) :: ts) := Lx.mark hb (fun e => absurd e h9) h
theorem num_lx {n : Int} (h0 : -1000000000 ≤ n) (h1 : n ≤ 1000000000) {r : Bs} {ts : Toks} (hr : Edge wide r) (h : Lx r ts) : Lx (D (num n) ++ r) (toksInt n ++ ts) := by
  unfold toksInt
  by_cases hn : n < 0
  · rw [if_pos hn]
    have e : D (num n) = 45 :: Go.Lib.decDigits n.natAbs := by show Go.Lib.itoa n = _; unfold Go.Lib.itoa; rw [if_pos hn]
    have e2 : Go.Lib.itoa (-n) = Go.Lib.decDigits n.natAbs := by unfold Go.Lib.itoa; rw [if_neg (by omega)]; congr 1; omega
    have h2 := Lx.num (n := -n) (by omega) (by omega) (edge_digit hr) h
    rw [e2] at h2
    rw [e]
    refine Lx.mark (b := 45) (by decide) (fun _ hc => ?_) h2
    cases hd : Go.Lib.decDigits n.natAbs with
    | nil => exact decD_ne _ hd
    | cons b l =>
      rw [hd] at hc
      have hc : b = 62 := by simpa using hc
      have := decD_digits n.natAbs b (by rw [hd]; simp)
      rw [hc] at this
      exact absurd this (by decide)
  · rw [if_neg hn]
    exact Lx.num (by omega) h1 (edge_digit hr) h
theorem arg_lx {a : TArg} (ha : okArg a = true) {r : Bs} {ts : Toks} (hr : Edge wide r) (h : Lx r ts) : Lx (D (argText a) ++ r) (toksArg a ++ ts) := by
  unfold argText toksArg
  have h0 := ha
  unfold okArg at h0
  by_cases h1 : a.K = 1
  · simp only [h1, if_true, Bool.and_eq_true] at h0 ⊢
    exact Lx.var h0.1 hr h
  by_cases h2 : a.K = 2
  · simp only [h2, show ¬ (2 : Int) = 1 by omega, if_true, if_false, Bool.and_eq_true] at h0 ⊢
    have hv := h0.1
    unfold valText
    by_cases k : a.V.K = 1
    · obtain ⟨n0, n1⟩ := valN hv k
      simp only [k, if_true]
      exact num_lx n0 n1 hr h
    · unfold okVal at hv
      simp only [k, if_false] at hv ⊢
      split at hv
      · simp only [Bool.and_eq_true, decide_eq_true_eq] at hv
        rw [D_app, D_app, List.append_assoc, List.append_assoc]
        exact Lx.text hv.2.1 hv.2.2 h
      · cases hv
  · simp only [h1, h2, if_false]
    exact Lx.mark' (b := 95) (by decide) (by decide) h
theorem expr_lx {e : TExpr} (he : okExpr e = true) {r : Bs} {ts : Toks} (hr : Edge wide r) (h : Lx r ts) : Lx (D (exprText e) ++ r) (toksExpr e ++ ts) := by
  unfold exprText toksExpr
  rw [if_pos he]
  have hx := he
  unfold okExpr at hx
  by_cases h0 : e.Op = e0
  · rw [if_pos (by rw [h0]; exact seq_self _)] at hx
    simp only [Bool.and_eq_true] at hx
    rw [if_pos (by rw [h0]; exact seq_self _), if_pos h0, List.append_nil]
    exact arg_lx (given_ok hx.1) hr h
  · have hq : ¬ (seq e.Op ⟨#[]⟩ = true) := by rw [seq_eq]; simp only [decide_eq_true_eq]; exact h0
    rw [if_neg hq] at hx
    simp only [Bool.and_eq_true, Bool.or_eq_true] at hx
    obtain ⟨ho, hL, hR⟩ := hx
    rw [if_neg hq, if_neg h0]
    simp only [D_app, List.append_assoc]
    have h2 := Lx.blank (b := 32) (by decide) (arg_lx (given_ok hR) hr h)
    have h3 : Lx (D e.Op ++ (D ⟨#[32]⟩ ++ (D (argText e.R) ++ r))) (mkT e.Op :: (toksArg e.R ++ ts)) := by
      rcases ho with ho | ho
      · have : e.Op = ⟨#[43]⟩ := by rw [seq_eq] at ho; exact of_decide_eq_true ho
        rw [this]
        exact Lx.mark' (b := 43) (by decide) (by decide) h2
      · have : e.Op = ⟨#[45]⟩ := by rw [seq_eq] at ho; exact of_decide_eq_true ho
        rw [this]
        exact Lx.mark (b := 45) (by decide) (fun _ hc => by simp [D] at hc) h2
    exact arg_lx (given_ok hL) (edge_bl (b := 32) (by decide)) (Lx.blank (b := 32) (by decide) h3)
theorem cond_lx {c : TCond} (hc : okCond c = true) {r : Bs} {ts : Toks} (hr : Edge wide r) (h : Lx r ts) : Lx (D (condText c) ++ r) (toksCond c ++ ts) := by
  unfold condText toksCond condSep
  rw [if_pos hc]
  unfold okCond at hc
  simp only [Bool.and_eq_true, decide_eq_true_eq] at hc
  obtain ⟨⟨o1, o2⟩, hL, hR⟩ := hc
  simp only [D_app, List.append_assoc, List.cons_append]
  have h2 := Lx.blank (b := 32) (by decide) (arg_lx (given_ok hR) hr h)
  have : c.Op = 1 ∨ c.Op = 2 ∨ c.Op = 3 := by omega
  rcases this with e | e | e
  · simp only [e, if_true, show ¬ (1 : Int) = 2 by omega, show ¬ (1 : Int) = 3 by omega, if_false]
    exact arg_lx (given_ok hL) (edge_bl (b := 32) (by decide)) (Lx.blank (b := 32) (by decide) (Lx.mark' (b := 61) (by decide) (by decide) h2))
  · simp only [e, if_true, show ¬ (2 : Int) = 1 by omega, if_false]
    exact arg_lx (given_ok hL) (edge_bl (b := 32) (by decide)) (Lx.blank (b := 32) (by decide) (Lx.mark' (b := 35) (by decide) (by decide) h2))
  · simp only [e, if_true, show ¬ (3 : Int) = 1 by omega, show ¬ (3 : Int) = 2 by omega, if_false]
    exact arg_lx (given_ok hL) (edge_bl (b := 32) (by decide)) (Lx.blank (b := 32) (by decide) (Lx.mark' (b := 60) (by decide) (by decide) h2))
theorem many_lx {α : Type} {f : α → ByteArray} {tk : α → Toks} : ∀ (l : List α), (∀ x ∈ l, ∀ (r : Bs) (ts : Toks), Edge wide r → Lx r ts → Lx (D (f x) ++ r) (tk x ++ ts)) → ∀ (r : Bs) (ts : Toks), Edge wide r → Lx r ts → Lx (D (commas (l.map f)) ++ r) (toksMany tk l ++ ts)
  | [], H, r, ts, hr, h => h
  | [x], H, r, ts, hr, h => by
    rw [List.map_cons, List.map_nil, commas_cons, tails_nil, D_app, List.append_assoc]
    exact H x (by simp) _ _ hr h
  | x :: y :: l, H, r, ts, hr, h => by
    have ih := many_lx (y :: l) (fun z hz => H z (by simp at hz ⊢; exact .inr hz)) r ts hr h
    rw [List.map_cons, commas_cons] at ih
    rw [List.map_cons, List.map_cons, commas_cons, tails_cons]
    simp only [D_app, List.append_assoc, toksMany, List.cons_append] at ih ⊢
    exact H x (by simp) _ _ (edge_mk (b := 44) (by decide) (by decide)) (Lx.mark' (b := 44) (by decide) (by decide) (Lx.blank (b := 32) (by decide) ih))
theorem list_lx {α : Type} {f : α → ByteArray} {tk : α → Toks} {l : List α} (H : ∀ x ∈ l, ∀ (r : Bs) (ts : Toks), Edge wide r → Lx r ts → Lx (D (f x) ++ r) (tk x ++ ts)) {r : Bs} {ts : Toks} (h : Lx r ts) :
    Lx (40 :: (D (commas (l.map f)) ++ 41 :: r)) (toksList tk l ++ ts) := by
  unfold toksList
  simp only [List.cons_append, List.append_assoc, List.nil_append]
  exact Lx.mark' (b := 40) (by decide) (by decide) (many_lx l H _ _ (edge_mk (b := 41) (by decide) (by decide)) (Lx.mark' (b := 41) (by decide) (by decide) h))
theorem pat_lx {p : TPat} (hp : okPat p = true) {r : Bs} {ts : Toks} (h : Lx r ts) : Lx (D (patText p) ++ r) (toksPat p ++ ts) := by
  unfold patText toksPat
  rw [if_pos hp]
  unfold okPat at hp
  simp only [Bool.and_eq_true, decide_eq_true_eq, List.all_eq_true] at hp
  have hb : Lx (D (patBody p) ++ r) (wdT p.Kind :: (toksList toksArg p.Args ++ ts)) := by
    unfold patBody
    simp only [D_app, List.append_assoc]
    exact Lx.word hp.1 (edge_letter (edge_mk (b := 40) (by decide) (by decide))) (list_lx (fun x hx r ts hr h => arg_lx (hp.2.2 x hx) hr h) h)
  cases p.Not
  · exact hb
  · simp only [if_true, D_app, List.append_assoc, List.cons_append, List.nil_append]
    exact Lx.mark' (b := 33) (by decide) (by decide) hb
theorem call_lx {a : TAct} (hn : okName a.Name = true) (ha : ∀ e ∈ a.Args, okExpr e = true) {r : Bs} {ts : Toks} (h : Lx r ts) : Lx (D (callText a) ++ r) (toksCall a.Name a.Args ++ ts) := by
  unfold callText toksCall
  simp only [D_app, List.append_assoc, List.cons_append]
  exact Lx.word hn (edge_letter (edge_mk (b := 40) (by decide) (by decide))) (list_lx (fun x hx r ts hr h => expr_lx (ha x hx) hr h) h)
theorem bl {b : UInt8} {r : Bs} (h : blankB b = true) : Edge letter (b :: r) := edge_letter (edge_bl h)
theorem act_lx {a : TAct} (hk : okAct a = true) {r : Bs} {ts : Toks} (hr : Edge wide r) (h : Lx r ts) : Lx (D (actText a) ++ r) (toksAct a ++ ts) := by
  unfold actText toksAct
  rw [if_pos hk]
  unfold okAct at hk
  simp only at hk
  by_cases k1 : a.Kind = 1
  · simp only [k1, if_true, Bool.and_eq_true, decide_eq_true_eq, List.all_eq_true] at hk ⊢
    obtain ⟨⟨⟨hn, ha, hl⟩, hM⟩, hU⟩ := hk
    rw [D_app, List.append_assoc]
    exact Lx.word (s := ⟨#[97, 115, 115, 101, 114, 116]⟩) (by decide) (bl (b := 32) (by decide)) (Lx.blank (b := 32) (by decide) (call_lx hn ha h))
  by_cases k2 : a.Kind = 2
  · simp only [k2, show ¬ (2 : Int) = 1 by omega, if_false, if_true, Bool.and_eq_true, decide_eq_true_eq] at hk ⊢
    obtain ⟨⟨⟨hn, hl⟩, hM⟩, hU⟩ := hk
    rw [D_app, List.append_assoc]
    have h2 := num_lx (n := a.N) (by omega) (by omega) hr h
    unfold toksInt at h2
    rw [if_neg (by omega)] at h2
    exact Lx.word (s := ⟨#[100, 114, 111, 112]⟩) (by decide) (bl (b := 32) (by decide)) (Lx.blank (b := 32) (by decide) h2)
  by_cases k3 : a.Kind = 3
  · simp only [k3, show ¬ (3 : Int) = 1 by omega, show ¬ (3 : Int) = 2 by omega, if_false, if_true, Bool.and_eq_true, Bool.or_eq_true, decide_eq_true_eq, List.all_eq_true] at hk ⊢
    obtain ⟨⟨⟨hn, ha, hl⟩, hM⟩, hU⟩ := hk
    by_cases hu : seq a.Undo ⟨#[]⟩ = true
    · rw [if_pos hu, if_pos (seq_e0 hu), D_app, List.append_assoc, List.append_nil]
      exact Lx.word (s := ⟨#[116, 97, 115, 107]⟩) (by decide) (bl (b := 32) (by decide)) (Lx.blank (b := 32) (by decide) (call_lx hn ha h))
    · have hU' : okName a.Undo = true := by rcases hU with hU | hU; exact absurd hU hu; exact hU
      rw [if_neg hu, if_neg (okName_ne hU')]
      simp only [D_app, List.append_assoc, List.cons_append, List.nil_append]
      have h2 := Lx.word hU' (edge_letter hr) h
      have h3 := Lx.word (s := ⟨#[117, 110, 100, 111]⟩) (by decide) (bl (b := 32) (by decide)) (Lx.blank (b := 32) (by decide) h2)
      have h4 := call_lx hn ha (Lx.blank (b := 32) (by decide) h3)
      exact Lx.word (s := ⟨#[116, 97, 115, 107]⟩) (by decide) (bl (b := 32) (by decide)) (Lx.blank (b := 32) (by decide) h4)
  by_cases k4 : a.Kind = 4
  · simp only [k4, show ¬ (4 : Int) = 1 by omega, show ¬ (4 : Int) = 2 by omega, show ¬ (4 : Int) = 3 by omega, if_false, if_true, Bool.and_eq_true, decide_eq_true_eq, List.all_eq_true] at hk ⊢
    obtain ⟨⟨⟨hn, ha, hl⟩, hM⟩, hU⟩ := hk
    simp only [D_app, List.append_assoc]
    have h1 := call_lx hn ha h
    have h2 := num_lx (n := a.N) (by omega) (by omega) (edge_bl (b := 32) (by decide)) (Lx.blank (b := 32) (by decide) h1)
    unfold toksInt at h2
    rw [if_neg (by omega)] at h2
    exact Lx.word (s := ⟨#[116, 105, 109, 101, 114]⟩) (by decide) (bl (b := 32) (by decide)) (Lx.blank (b := 32) (by decide) h2)
  simp only [k1, k2, k3, k4, if_false] at hk ⊢
  by_cases k5 : a.Kind = 5
  · rw [if_pos k5, if_pos k5]
    exact Lx.word (s := ⟨#[100, 111, 110, 101]⟩) (by decide) (edge_letter hr) h
  · rw [if_neg k5, if_neg k5]
    exact Lx.word (s := ⟨#[102, 97, 105, 108]⟩) (by decide) (edge_letter hr) h
theorem conds_lx {l : List TCond} (hl : ∀ c ∈ l, okCond c = true) {r : Bs} {ts : Toks} (hr : Edge wide r) (h : Lx r ts) : Lx (D (condPart l) ++ r) (toksConds l ++ ts) := by
  unfold condPart toksConds
  cases l with
  | nil => exact h
  | cons c l =>
    simp only [D_app, List.append_assoc, if_neg (List.cons_ne_nil c l), List.cons_append]
    exact Lx.blank (b := 32) (by decide) (Lx.mark' (b := 43) (by decide) (by decide) (Lx.blank (b := 32) (by decide) (many_lx (c :: l) (fun x hx r ts hr h => cond_lx (hl x hx) hr h) r ts hr h)))
theorem rule_lx {x : TRule} (hx : okRule x = true) {r : Bs} {ts : Toks} (h : Lx r ts) : Lx (D (ruleText x) ++ r) (toksRule x ++ ts) := by
  unfold okRule at hx
  simp only [Bool.and_eq_true, decide_eq_true_eq, List.all_eq_true] at hx
  obtain ⟨hn, hs, hp, ⟨hc, hcl⟩, ha, hal⟩ := hx
  unfold okPats at hp
  simp only [Bool.and_eq_true, decide_eq_true_eq] at hp
  have hp2 := patsFrom_ok _ _ hp.2.2
  have h1 : Lx (46 :: 10 :: r) (mkT ⟨#[46]⟩ :: ts) := Lx.mark' (b := 46) (by decide) (by decide) (Lx.blank (b := 10) (by decide) h)
  have h2 := many_lx x.Acts (f := actText) (tk := toksAct) (fun a hx r ts hr h => act_lx (by have := ha a hx; unfold okActK at this; simp only [Bool.and_eq_true] at this; exact this.1) hr h) _ _ (edge_mk (b := 46) (by decide) (by decide)) h1
  have h3 := Lx.blank (b := 32) (by decide) (Lx.arrow (Lx.blank (b := 32) (by decide) h2))
  have h4 := conds_lx (l := x.Conds) (fun c hx => by have := hc c hx; unfold okCondK at this; simp only [Bool.and_eq_true] at this; exact this.1) (edge_bl (b := 32) (by decide)) h3
  have h5 : Edge wide (D (condPart x.Conds) ++ 32 :: 45 :: 62 :: 32 :: (D (commas (x.Acts.map actText)) ++ 46 :: 10 :: r)) := by
    unfold condPart
    cases x.Conds with
    | nil => exact edge_bl (b := 32) (by decide)
    | cons c l =>
      simp only [D_app, List.append_assoc]
      exact edge_bl (b := 32) (by decide)
  have h6 := many_lx x.Pats (f := patText) (tk := toksPat) (fun p hx r ts hr h => pat_lx (hp2 p hx) h) _ _ h5 h4
  have h7 := num_lx (n := x.Sal) (by omega) (by omega) (edge_mk (b := 58) (by decide) (by decide)) (Lx.mark' (b := 58) (by decide) (by decide) (Lx.blank (b := 32) (by decide) h6))
  have h8 := Lx.word hn (bl (b := 32) (by decide)) (Lx.blank (b := 32) (by decide) h7)
  unfold ruleText ruleHead toksRule
  simp only [D_app, List.append_assoc, List.cons_append, List.nil_append]
  exact Lx.word (s := ⟨#[114, 117, 108, 101]⟩) (by decide) (bl (b := 32) (by decide)) (Lx.blank (b := 32) (by decide) h8)
theorem rules_lx : ∀ (l : List TRule), (∀ x ∈ l, okRule x = true) → Lx (D (texts l)) (l.flatMap toksRule)
  | [], _ => Lx.nil
  | x :: l, h => by
    have ih := rules_lx l fun y hy => h y (by simp [hy])
    have := rule_lx (h x (by simp)) ih
    rw [List.flatMap_cons]
    unfold texts
    rw [D_app]
    exact this
theorem def_lx {d : TDef} (hd : okDef d = true) : Lx (D (defText d)) (toksDef d) := by
  have hr := okDef_rule hd
  have h1 := rules_lx d.Rules hr
  unfold defText toksDef
  rw [if_pos hd]
  unfold okDef at hd
  simp only [Bool.and_eq_true, decide_eq_true_eq] at hd
  simp only [D_app, List.append_assoc]
  have h2 : Lx (46 :: 10 :: D (texts d.Rules)) (mkT ⟨#[46]⟩ :: d.Rules.flatMap toksRule) := Lx.mark' (b := 46) (by decide) (by decide) (Lx.blank (b := 10) (by decide) h1)
  have h3 := Lx.word hd.1 (edge_letter (edge_mk (b := 46) (by decide) (by decide))) h2
  exact Lx.word (s := ⟨#[100, 101, 102]⟩) (by decide) (bl (b := 32) (by decide)) (Lx.blank (b := 32) (by decide) h3)
theorem rulesL {β γ : Type} {ts : Toks} (hg : Small ts) (hl : ts.length ≤ 3000) {z : Bool} (K : TRule → Nat → Bool → γ) (L : Nat → List TRule → Int → Bool → Option β) (R : Nat → Option γ) (X : List TRule → Option β) (E : Option β)
    (hR : ∀ n, n ≤ ts.length → Does ts K (R n) n false (ruleP z))
    (hB : ∀ k s1 n, L (k + 1) s1 n true = E) (hE : ∀ k s1, L (k + 1) s1 (ts.length : Int) false = X s1)
    (hS : ∀ k s1 n x (n' : Nat) b', n < ts.length → s1.length ≤ 3000 → R n = some (K x n' b') → L (k + 1) s1 (n : Int) false = L k (s1 ++ [x]) (n' : Int) b') :
    ∀ (f g n : Nat) (s1 : List TRule), n ≤ ts.length → ts.length - n < f → ts.length - n < g → s1.length ≤ n → L f s1 (n : Int) false = match rulesP z g (ts.drop n) with | some l => X (s1 ++ l) | none => E
  | 0, g, n, s1, _, h, _, _ => by omega
  | f + 1, 0, n, s1, _, _, h, _ => by omega
  | f + 1, g + 1, n, s1, hn, hf, hg', hs => by
    by_cases c : n = ts.length
    · subst c
      rw [hE, List.drop_length]
      simp only [rulesP, List.append_nil]
    · have hlt : n < ts.length := by omega
      obtain ⟨x, n', b', h0, l1, u1, f1, t1⟩ := hR n hn
      rw [hS f s1 n x n' b' hlt (by omega) h0]
      have hd : rulesP z (g + 1) (ts.drop n) = (ruleP z (ts.drop n)).bind fun x => (rulesP z g x.2).bind fun l => some (x.1 :: l) := by
        rw [List.drop_eq_getElem_cons hlt]
        rfl
      cases b' with
      | true =>
        obtain ⟨k, rfl⟩ : ∃ k, f = k + 1 := ⟨f - 1, by omega⟩
        rw [hB, hd]
        rcases t1 rfl with h | h
        · cases h
        · rw [h]; rfl
      | false =>
        have e := (f1 rfl).2
        have hz := (rule_z e (fun t ht => hg t (List.mem_of_mem_drop ht)) (by simp; omega)).2.2
        simp only [List.length_drop] at hz
        rw [hd, e, Option.bind_some, rulesL hg hl K L R X E hR hB hE hS f g n' (s1 ++ [x]) u1 (by omega) (by omega) (by simp; omega)]
        cases rulesP z g (ts.drop n') <;> simp
def okOut (ts : Toks) : Option TDef → TDef × Bool
  | some d => if okDef d = true then (d, true) else (⟨e0, []⟩, false)
  | none => (⟨e0, []⟩, false)
def okOutI (ts : Toks) : Option TDef → TDef × Bool
  | some d => if okDef d = true ∧ toksDef d = ts then (d, true) else (⟨e0, []⟩, false)
  | none => (⟨e0, []⟩, false)
theorem out_eq {ts : Toks} (hg : Good ts) : okOutI ts (defP false ts) = okOut ts (defP true ts) := by
  cases hB : defP true ts with
  | some d =>
    have e := def_snd hB hg
    unfold okOut
    simp only
    by_cases c : okDef d = true
    · rw [if_pos c]
      have hA : defP false ts = some d := by rw [e]; exact def_ok c
      rw [hA]
      unfold okOutI
      simp only
      rw [if_pos ⟨c, e.symm⟩]
    · rw [if_neg c]
      cases hA : defP false ts with
      | none => rfl
      | some d' =>
        unfold okOutI
        simp only
        rw [if_neg]
        rintro ⟨c1, c2⟩
        have := def_ok (z := true) c1
        rw [c2, hB] at this
        cases this
        exact c c1
  | none =>
    unfold okOut
    cases hA : defP false ts with
    | none => rfl
    | some d' =>
      unfold okOutI
      simp only
      rw [if_neg]
      rintro ⟨c1, c2⟩
      have := def_ok (z := true) c1
      rw [c2, hB] at this
      cases this
theorem eqToks {N : Nat} (hN : 1099000000000 ≤ N) (x y : Toks) (hl : x.length ≤ 3000) : m_sl_Equal_Si_Token_i_Token N x y = some (decide (x = y)) := by
  unfold m_sl_Equal_Si_Token_i_Token
  by_cases c : x.length = y.length
  · rw [if_neg (by simp; omega)]
    refine (eqloop (m_sl_Equal_Si_Token_i_Token_l1 N x y) x y c (by omega) (fun a b => some (eqT_TToken a b)) (fun a _ b _ => by rw [eqT_TToken_eq]) (fun k i => rfl) N 0 (by omega) (by omega)).trans ?_
    simp
  · rw [if_pos (by simp; omega)]
    have : ¬ x = y := fun e => c (by rw [e])
    simp [this]
theorem defText_len {d : TDef} (h : okDef d = true) : (defText d).size ≤ 1048576 := by
  have hh := def_has h
  have hr := okDef_rule h
  have : ∀ (l : List TRule), (∀ r ∈ l, okRule r = true) → (texts l).size ≤ l.length * 5000 := by
    intro l
    induction l with
    | nil => intro _; exact Nat.le_refl _
    | cons r t ih =>
      intro h
      have h1 := ruleText_len (h r (by simp))
      have h2 := ih fun x hx => h x (by simp [hx])
      simp only [texts, ByteArray.size_append, List.length_cons]
      omega
  have h3 := this _ hr
  unfold defText
  rw [if_pos h]
  simp only [ByteArray.size_append]
  show 4 + _ + 2 + _ ≤ _
  omega
theorem endI {N : Nat} (hN : 1099000000000 ≤ N) {ts : Toks} (hne : ts ≠ []) (hl : ts.length ≤ 3000) (d : TDef) (hs : SzDef d) :
    ((m_i_DefOk N d).bind fun x7 => some (!x7)).bind (fun b7 => (if b7 then some ((⟨(⟨#[]⟩ : ByteArray), []⟩ : TDef), false) else ((m_i_DefText N d).bind fun x8 => ((m_i_Lex N x8).bind fun x9 => ((m_sl_Equal_Si_Token_i_Token N x9.1 ts).bind fun x10 => (if !x10 then some ((⟨(⟨#[]⟩ : ByteArray), []⟩ : TDef), false) else some (d, true))))))) = some (okOutI ts (some d)) := by
  rw [def_i hN d hs, Option.bind_some, Option.bind_some]
  unfold okOutI
  simp only
  cases h : okDef d with
  | false => simp
  | true =>
    simp only [Bool.not_true, Bool.false_eq_true, if_false, true_and]
    have hx := def_lx h
    obtain ⟨p, -, hp⟩ := lex_i hN (defText d) (defText_len h)
    rw [defT_i hN d hs, Option.bind_some, hp, Option.bind_some]
    have e : lexR (defText d) = if (toksDef d).length ≤ 3000 then some (toksDef d) else none := by
      unfold lexR
      rw [show lexL (defText d).data.toList = some (toksDef d) from hx, Option.bind_some]
    rw [e]
    by_cases c : (toksDef d).length ≤ 3000
    · rw [if_pos c]
      simp only
      rw [eqToks hN _ _ c, Option.bind_some]
      by_cases c2 : toksDef d = ts
      · simp [c2]
      · simp [c2]
    · rw [if_neg c]
      simp only
      rw [eqToks hN _ _ (by simp), Option.bind_some]
      have c2 : ¬ toksDef d = ts := fun e => c (by rw [e]; exact hl)
      have c3 : ¬ ([] : Toks) = ts := fun e => hne e.symm
      simp [c2, c3]
theorem tkS {o : Option Toks} {r : Toks} (h : o.bind (fun r => some ((), r)) = some ((), r)) : o = some r := by
  cases o with
  | none => cases h
  | some x => cases h; rfl
theorem tkN {o : Option Toks} (h : o.bind (fun r => some ((), r)) = none) : o = none := by
  cases o with
  | none => rfl
  | some x => cases h
theorem header {z : Bool} {ts : Toks} {w : TToken} {n1 n2 n3 : Nat} {b1 b2 b3 : Bool}
    (f1 : b1 = false → false = false ∧ ((skipP 2 ⟨#[100, 101, 102]⟩ (ts.drop 0)).bind fun r => some ((), r)) = some ((), ts.drop n1)) (t1 : b1 = true → false = true ∨ ((skipP 2 ⟨#[100, 101, 102]⟩ (ts.drop 0)).bind fun r => some ((), r)) = none)
    (f2 : b2 = false → b1 = false ∧ wordP 2 (ts.drop n1) = some (w, ts.drop n2)) (t2 : b2 = true → b1 = true ∨ wordP 2 (ts.drop n1) = none)
    (f3 : b3 = false → b2 = false ∧ ((skipP 5 ⟨#[46]⟩ (ts.drop n2)).bind fun r => some ((), r)) = some ((), ts.drop n3)) (t3 : b3 = true → b2 = true ∨ ((skipP 5 ⟨#[46]⟩ (ts.drop n2)).bind fun r => some ((), r)) = none) :
    (b3 = false → defP z ts = (rulesP z 4000 (ts.drop n3)).bind fun l => some ⟨w.S, l⟩) ∧ (b3 = true → defP z ts = none) := by
  rw [List.drop_zero] at f1 t1
  have hd : defP z ts = ((skipP 2 ⟨#[100, 101, 102]⟩ ts).bind fun r0 => (wordP 2 r0).bind fun w => (skipP 5 ⟨#[46]⟩ w.2).bind fun r1 => (rulesP z 4000 r1).bind fun l => some ⟨w.1.S, l⟩) := rfl
  refine ⟨fun h => ?_, fun h => ?_⟩
  · obtain ⟨e2, h3⟩ := f3 h
    obtain ⟨e1, h2⟩ := f2 e2
    obtain ⟨-, h1⟩ := f1 e1
    rw [hd, tkS h1, Option.bind_some, h2, Option.bind_some, tkS h3, Option.bind_some]
  · cases b1 with
    | true =>
      rcases t1 rfl with h1 | h1
      · cases h1
      · rw [hd, tkN h1, Option.bind_none]
    | false =>
      obtain ⟨-, h1⟩ := f1 rfl
      cases b2 with
      | true =>
        rcases t2 rfl with h2 | h2
        · cases h2
        · rw [hd, tkS h1, Option.bind_some, h2, Option.bind_none]
      | false =>
        obtain ⟨-, h2⟩ := f2 rfl
        rcases t3 h with h3 | h3
        · cases h3
        · rw [hd, tkS h1, Option.bind_some, h2, Option.bind_some, tkN h3, Option.bind_none]
theorem AllOk.small {ts : Toks} (h : AllOk ts) : Small ts := fun t ht => tokOk_small (h t ht)
theorem parse_i {N : Nat} (hN : 1099000000000 ≤ N) {ts : Toks} (ho : AllOk ts) (hl : ts.length ≤ 3000) :
    ((m_i_parser_take N (⟨ts, 0, false⟩ : Tparser) 2 (⟨#[100, 101, 102]⟩ : ByteArray)).bind fun x2 => ((m_i_parser_word N (⟨ts, x2.at_, x2.bad⟩ : Tparser) 2).bind fun x3 => ((m_i_parser_take N (⟨ts, x3.2.at_, x3.2.bad⟩ : Tparser) 5 (⟨#[46]⟩ : ByteArray)).bind fun x4 => m_i_ParseDef_l1 N (ts, -1) x3 N ([] : List TRule) x4.at_ x4.bad))) = some (okOutI ts (defP false ts)) := by
  obtain ⟨⟨⟩, n1, b1, h1, l1, u1, f1, t1⟩ := ptake_i (N := N) ho.good hl (k := 2) (by decide) (by decide) (s := ⟨#[100, 101, 102]⟩) (bad := false) (Nat.zero_le ts.length)
  obtain ⟨w, n2, b2, h2, l2, u2, f2, t2⟩ := pword_i (N := N) hl (k := 2) (by decide) (bad := b1) u1
  obtain ⟨⟨⟩, n3, b3, h3, l3, u3, f3, t3⟩ := ptake_i (N := N) ho.good hl (k := 5) (by decide) (by decide) (s := ⟨#[46]⟩) (bad := b2) u2
  obtain ⟨g1, g2⟩ := header (z := false) f1 t1 f2 t2 f3 t3
  rw [show (⟨ts, 0, false⟩ : Tparser) = pI ts ((0 : Nat)) false from rfl, h1, Option.bind_some, h2, Option.bind_some, h3, Option.bind_some]
  have hB : ∀ k s1 n, m_i_ParseDef_l1 N (ts, -1) (w, pI ts n2 b2) (k + 1) s1 n true = some (⟨e0, []⟩, false) := fun k s1 n => by
    simp only [m_i_ParseDef_l1, Bool.not_true, Bool.false_eq_true, if_false, Option.bind_some, if_true]
  cases b3 with
  | true =>
    obtain ⟨M, hM⟩ : ∃ M, N = M + 1 := ⟨N - 1, by omega⟩
    rw [g2 rfl]
    show m_i_ParseDef_l1 N (ts, -1) (w, pI ts n2 b2) N [] (n3 : Int) true = _
    have := hB M [] (n3 : Int)
    rw [← hM] at this
    exact this
  | false =>
    have key := rulesL ho.small hl (z := false) (KI ts) (m_i_ParseDef_l1 N (ts, -1) (w, pI ts n2 b2)) (fun n => m_i_parser_rule N (pI ts n false)) (fun s1 => m_i_ParseDef_l1 N (ts, -1) (w, pI ts n2 b2) 1 s1 (ts.length : Int) false) (some (⟨e0, []⟩, false))
      (fun n hn => rule_i' hN ho hl hn) hB (fun k s1 => by simp only [m_i_ParseDef_l1, Bool.not_false, if_true, Int.lt_irrefl, decide_false, Option.bind_some, Bool.false_eq_true, if_false])
      (fun k s1 n x n' b' hlt hs hr => by
        have ha : app s1 [x] = some (s1 ++ [x]) := app_ok (by simp; omega)
        have hr' : m_i_parser_rule N (pI ts n false) = some (x, pI ts n' b') := hr
        have hc : decide ((n : Int) < (ts.length : Int)) = true := decide_eq_true (by omega)
        simp only [m_i_ParseDef_l1, Bool.not_false, if_true, hc, Option.bind_some, hr', ha]) N 4000 n3 [] u3 (by omega) (by omega) (by simp)
    show m_i_ParseDef_l1 N (ts, -1) (w, pI ts n2 b2) N [] (n3 : Int) false = _
    rw [key, g1 rfl]
    cases hr : rulesP false 4000 (ts.drop n3) with
    | none => rfl
    | some l =>
      have hd := g1 rfl
      rw [hr] at hd
      have hz := def_z hd ho.small (by omega)
      have hne : ts ≠ [] := by rintro rfl; cases hd
      simp only [List.nil_append, Option.bind_some]
      rw [← endI hN hne hl ⟨w.S, l⟩ hz]
      simp only [m_i_ParseDef_l1, Bool.not_false, if_true, Int.lt_irrefl, decide_false, Option.bind_some, Bool.false_eq_true, if_false]
theorem lexR_ok {s : ByteArray} {ts : Toks} (h : lexR s = some ts) : AllOk ts ∧ ts.length ≤ 3000 := by
  unfold lexR at h
  obtain ⟨l, h1, h2⟩ := bind_some h
  split at h2
  · cases h2
    exact ⟨lexF_ok _ _ _ h1, by omega⟩
  · cases h2
def parsed (s : ByteArray) : TDef × Bool := match lexR s with | some ts => okOut ts (defP true ts) | none => (⟨e0, []⟩, false)
theorem pd_i {N : Nat} (hN : 1099000000000 ≤ N) (s : ByteArray) (hs : s.size ≤ 1048576) : m_i_ParseDef N s = some (parsed s) := by
  obtain ⟨p, hp, h⟩ := lex_i hN s hs
  unfold m_i_ParseDef parsed
  rw [h, Option.bind_some]
  cases hx : lexR s with
  | none =>
    simp only
    have c : ¬ p = -1 := by omega
    simp only [c, decide_false, Bool.not_false, if_true]
  | some ts =>
    simp only [decide_true, Bool.not_true, Bool.false_eq_true, if_false]
    obtain ⟨g1, g2⟩ := lexR_ok hx
    rw [← out_eq g1.good]
    exact parse_i hN g1 g2
theorem nInt (n : Int) : (toksInt n).length ≤ 2 := by unfold toksInt; split <;> simp
theorem nArg (a : TArg) : (toksArg a).length ≤ 2 := by
  unfold toksArg
  split
  · simp
  split
  · split
    · exact nInt _
    · simp
  · simp
theorem nMany {α : Type} {f : α → Toks} {C : Nat} : ∀ (l : List α), (∀ x ∈ l, (f x).length ≤ C) → (toksMany f l).length ≤ l.length * (C + 1)
  | [], _ => by simp [toksMany]
  | [x], h => by
    have := h x (by simp)
    simp only [toksMany, List.length_cons, List.length_nil]
    omega
  | x :: y :: l, h => by
    have h1 := h x (by simp)
    have h2 := nMany (y :: l) fun z hz => h z (by simp at hz ⊢; exact .inr hz)
    simp only [toksMany, List.length_append, List.length_cons] at h2 ⊢
    have e1 : (l.length + 1 + 1) * (C + 1) = (l.length + 1) * (C + 1) + (C + 1) := Nat.succ_mul _ _
    rw [e1]
    omega
theorem nList {α : Type} {f : α → Toks} {C : Nat} {l : List α} (h : ∀ x ∈ l, (f x).length ≤ C) {m : Nat} (hm : l.length ≤ m) : (toksList f l).length ≤ m * (C + 1) + 2 := by
  have := nMany l h
  have h2 := Nat.mul_le_mul_right (C + 1) hm
  unfold toksList
  simp only [List.length_cons, List.length_append, List.length_nil]
  omega
theorem nExpr (e : TExpr) : (toksExpr e).length ≤ 5 := by
  unfold toksExpr
  have := nArg e.L
  have := nArg e.R
  split <;> simp <;> omega
theorem nCond (c : TCond) : (toksCond c).length ≤ 5 := by
  unfold toksCond
  have := nArg c.L
  have := nArg c.R
  simp
  omega
theorem nPat {p : TPat} (h : p.Args.length ≤ 5) : (toksPat p).length ≤ 19 := by
  unfold toksPat
  have := nList (fun x (_ : x ∈ p.Args) => nArg x) h
  split <;> simp <;> omega
theorem nCall {s : ByteArray} {l : List TExpr} (h : l.length ≤ 5) : (toksCall s l).length ≤ 33 := by
  unfold toksCall
  have := nList (fun x (_ : x ∈ l) => nExpr x) h
  simp
  omega
theorem nAct {a : TAct} (h : okAct a = true) : (toksAct a).length ≤ 40 := by
  have hh := act_has h
  unfold toksAct
  by_cases k1 : a.Kind = 1
  · rw [if_pos k1]
    have : a.Args.length ≤ 5 := by rcases hh with h | h | h | h | h | h <;> omega
    have := nCall (s := a.Name) this
    simp; omega
  rw [if_neg k1]
  by_cases k2 : a.Kind = 2
  · rw [if_pos k2]; simp
  rw [if_neg k2]
  by_cases k3 : a.Kind = 3
  · rw [if_pos k3]
    have : a.Args.length ≤ 5 := by rcases hh with h | h | h | h | h | h <;> omega
    have := nCall (s := a.Name) this
    split <;> simp <;> omega
  rw [if_neg k3]
  by_cases k4 : a.Kind = 4
  · rw [if_pos k4]
    have : a.Args.length ≤ 5 := by rcases hh with h | h | h | h | h | h <;> omega
    have := nCall (s := a.Name) this
    simp; omega
  rw [if_neg k4]
  split <;> simp
theorem okActK_act {vs : List ByteArray} {n : Nat} {a : TAct} (h : okActK vs n a = true) : okAct a = true := by
  unfold okActK at h
  simp only [Bool.and_eq_true] at h
  exact h.1
theorem nRule {r : TRule} (h : okRule r = true) : (toksRule r).length ≤ 500 := by
  obtain ⟨-, -, l1, l2, l3⟩ := rule_has h
  unfold okRule okPats at h
  simp only [Bool.and_eq_true, decide_eq_true_eq, List.all_eq_true] at h
  have hp := patsFrom_ok _ _ h.2.2.1.2.2
  have ha := h.2.2.2.2.1
  have n1 := nMany (f := toksPat) (C := 19) r.Pats fun p hp' => nPat (pat_has (hp p hp')).2.1
  have n2 := nMany (f := toksCond) (C := 5) r.Conds fun c _ => nCond c
  have n3 := nMany (f := toksAct) (C := 40) r.Acts fun a ha' => nAct (okActK_act (ha a ha'))
  have n4 := nInt r.Sal
  have n5 : (toksConds r.Conds).length ≤ 37 := by
    unfold toksConds
    split
    · simp
    · simp; omega
  unfold toksRule
  simp only [List.length_cons, List.length_append, List.length_nil]
  omega
def xDef (r : TRule) : TDef := ⟨⟨#[120]⟩, [r]⟩
theorem xDef_ok {r : TRule} (h : okRule r = true) : okDef (xDef r) = true := by
  have h1 : ruleAt [r] r.Name = 0 := by
    unfold ruleAt
    simp [List.findIdx?_cons, seq_self]
  have h2 : okName ⟨#[120]⟩ = true := by decide
  unfold okDef xDef
  simp only [h2, rulesFrom, h, h1]
  rfl
theorem xDef_lx {r : TRule} (h : okRule r = true) : Lx (D ((⟨#[100, 101, 102, 32, 120, 46, 32]⟩ : ByteArray) ++ ruleText r)) (toksDef (xDef r)) := by
  have h1 := rule_lx h Lx.nil
  simp only [List.append_nil] at h1
  have h2 : Lx (46 :: 32 :: D (ruleText r)) (mkT ⟨#[46]⟩ :: toksRule r) := Lx.mark' (b := 46) (by decide) (by decide) (Lx.blank (b := 32) (by decide) h1)
  have h3 := Lx.word (s := ⟨#[120]⟩) (by decide) (edge_letter (edge_mk (b := 46) (by decide) (by decide))) h2
  have h4 := Lx.word (s := ⟨#[100, 101, 102]⟩) (by decide) (bl (b := 32) (by decide)) (Lx.blank (b := 32) (by decide) h3)
  unfold toksDef xDef
  simp only [D_app, List.flatMap_cons, List.flatMap_nil, List.append_nil]
  exact h4
theorem parsed_x {r : TRule} (h : okRule r = true) : parsed ((⟨#[100, 101, 102, 32, 120, 46, 32]⟩ : ByteArray) ++ ruleText r) = (xDef r, true) := by
  have hx := xDef_lx h
  have hl : (toksDef (xDef r)).length ≤ 3000 := by
    have := nRule h
    unfold toksDef xDef
    simp only [List.flatMap_cons, List.flatMap_nil, List.append_nil, List.length_cons]
    omega
  have e : lexR ((⟨#[100, 101, 102, 32, 120, 46, 32]⟩ : ByteArray) ++ ruleText r) = some (toksDef (xDef r)) := by
    unfold lexR
    rw [show lexL ((⟨#[100, 101, 102, 32, 120, 46, 32]⟩ : ByteArray) ++ ruleText r).data.toList = some (toksDef (xDef r)) from hx, Option.bind_some, if_pos hl]
  unfold parsed
  rw [e]
  simp only
  rw [def_ok (z := true) (xDef_ok h)]
  unfold okOut
  simp only
  rw [if_pos (xDef_ok h)]
theorem and_le (i : Int) (m : Nat) (h : m < 4611686018427387904) : 0 ≤ andI .i64 i (m : Int) ∧ andI .i64 i (m : Int) ≤ (m : Int) := by
  unfold andI
  have h1 : ((BitVec.ofInt IntKind.i64.bits i) &&& (BitVec.ofInt IntKind.i64.bits (m : Int))).toNat ≤ m := by
    rw [BitVec.toNat_and]
    have h2 : (BitVec.ofInt IntKind.i64.bits (m : Int)).toNat = m := by
      rw [BitVec.toNat_ofInt]
      have : ((2 ^ IntKind.i64.bits : Nat) : Int) = 18446744073709551616 := by decide
      rw [this, Int.emod_eq_of_lt (by omega) (by omega)]
      simp
    rw [h2]; exact Nat.and_le_right
  rw [wr (by omega) (by omega)]
  omega
theorem and255 (i : Int) : 0 ≤ andI .i64 i 255 ∧ andI .i64 i 255 ≤ 255 := and_le i 255 (by omega)
def GC (b : List Int) (c : Tl1Cur) : Prop := c.b = b ∧ 0 ≤ c.i ∧ c.i ≤ (b.length : Int)
theorem GC.re {b : List Int} {c d : Tl1Cur} (h : GC b c) (h' : d.b = b) : GC b (⟨d.b, c.i, c.h⟩ : Tl1Cur) := ⟨h', h.2⟩
theorem new_ok {N : Nat} (hN : 1099000000000 ≤ N) (b : List Int) (hb : b.length ≤ 1048576) : ∃ c, m_s_l1New N b = some c ∧ GC b c := by
  unfold m_s_l1New
  have : ∀ (n i : Nat) (h : Int), i ≤ b.length → b.length - i < n → ∃ c, m_s_l1New_l1 N b n h i = some c ∧ GC b c := by
    intro n
    induction n with
    | zero => intro i h _ h'; omega
    | succ n ih =>
      intro i h hi hn
      simp only [m_s_l1New_l1]
      by_cases hlt : i < b.length
      · have c1 : decide ((i : Int) < (b.length : Int)) = true := decide_eq_true (by omega)
        simp only [c1, if_true, Option.bind_some, idx_nat_lt hlt, wr1 i (by omega)]
        split
        · exact ih (i + 1) _ (by omega) (by omega)
        · exact ⟨_, rfl, rfl, by simp, by simp⟩
      · have c1 : decide ((i : Int) < (b.length : Int)) = false := decide_eq_false (by omega)
        simp only [c1, Bool.false_eq_true, if_false, Option.bind_some]
        exact ⟨_, rfl, rfl, by simp, by simp⟩
  exact this N 0 _ (by omega) (by omega)
theorem byte_ok {N : Nat} (b : List Int) (hb : b.length ≤ 1048576) (c : Tl1Cur) (hc : GC b c) : ∃ v d, m_s_l1Byte N c = some (v, d) ∧ GC b d ∧ 0 ≤ v ∧ v ≤ 255 := by
  obtain ⟨rfl, h0, h1⟩ := hc
  unfold m_s_l1Byte
  by_cases hlt : c.i < (c.b.length : Int)
  · obtain ⟨i, hi⟩ : ∃ i : Nat, c.i = (i : Int) := ⟨c.i.toNat, by omega⟩
    have c1 : decide (c.i < (c.b.length : Int)) = true := decide_eq_true hlt
    rw [hi] at h0 h1 hlt ⊢
    rw [hi] at c1
    simp only [c1, if_true, idx_nat_lt (show i < c.b.length by omega), Option.bind_some, wr1 i (by omega)]
    exact ⟨_, _, rfl, ⟨rfl, by simp; omega, by simp; omega⟩, and255 _⟩
  · have c1 : decide (c.i < (c.b.length : Int)) = false := decide_eq_false hlt
    simp only [c1, Bool.false_eq_true, if_false]
    exact ⟨_, _, rfl, ⟨rfl, h0, h1⟩, and255 _⟩
theorem rem_ok {v n : Int} (hv : 0 ≤ v) (hn : 0 < n) : ∃ r, remI v n = some r ∧ 0 ≤ r ∧ r < n := by
  unfold remI
  rw [if_neg (by omega), Int.tmod_eq_emod_of_nonneg hv]
  exact ⟨_, rfl, Int.emod_nonneg _ (by omega), Int.emod_lt_of_pos _ hn⟩
theorem below_ok {N : Nat} (b : List Int) (hb : b.length ≤ 1048576) (c : Tl1Cur) (hc : GC b c) (n : Int) : ∃ v d, m_s_l1Below N c n = some (v, d) ∧ GC b d ∧ 0 ≤ v ∧ (0 < n → v < n) ∧ (n ≤ 0 → v = 0) := by
  unfold m_s_l1Below
  by_cases h0 : n ≤ 0
  · simp only [h0, decide_true, if_true]
    exact ⟨_, _, rfl, hc, by omega, by omega, fun _ => rfl⟩
  · simp only [h0, decide_false, Bool.false_eq_true, if_false]
    by_cases h1 : n ≤ 256
    · simp only [h1, decide_true, if_true]
      obtain ⟨v, d, e, g, a1, a2⟩ := byte_ok (N := N) b hb c hc
      obtain ⟨r, er, r0, r1⟩ := rem_ok a1 (show 0 < n by omega)
      simp only [e, Option.bind_some, er]
      exact ⟨_, _, rfl, g.re hc.1 |> fun _ => ⟨hc.1, g.2⟩, r0, fun _ => r1, fun h => h.elim⟩
    · simp only [h1, decide_false, Bool.false_eq_true, if_false]
      obtain ⟨v1, d1, e1, g1, a1, a1'⟩ := byte_ok (N := N) b hb c hc
      simp only [e1, Option.bind_some]
      obtain ⟨v2, d2, e2, g2, a2, a2'⟩ := byte_ok (N := N) b hb ⟨c.b, d1.i, d1.h⟩ ⟨hc.1, g1.2⟩
      simp only [e2, Option.bind_some]
      obtain ⟨v3, d3, e3, g3, a3, a3'⟩ := byte_ok (N := N) b hb ⟨c.b, d2.i, d2.h⟩ ⟨hc.1, g2.2⟩
      simp only [e3, Option.bind_some]
      rw [wr (n := v1 * 65536) (by omega) (by omega), wr (n := v2 * 256) (by omega) (by omega), wr (n := v1 * 65536 + v2 * 256) (by omega) (by omega), wr (n := v1 * 65536 + v2 * 256 + v3) (by omega) (by omega)]
      obtain ⟨r, er, r0, r1⟩ := rem_ok (show 0 ≤ v1 * 65536 + v2 * 256 + v3 by omega) (show 0 < n by omega)
      simp only [er, Option.bind_some]
      exact ⟨_, _, rfl, ⟨hc.1, g3.2⟩, r0, fun _ => r1, fun h => h.elim⟩
theorem wrm {s : Int} (h : 0 < s) (h' : s ≤ 4611686018427387904) : IntKind.i64.wrap (s - 1) = s - 1 := wr (by omega) (by omega)
def Dr {α : Type} (b : List Int) (Q : α → Prop) (o : Option (α × Tl1Cur)) : Prop := ∃ v d, o = some (v, d) ∧ GC b d ∧ Q v
theorem Dr.bind {α β : Type} {b : List Int} {Q : α → Prop} {R : β → Prop} {o : Option (α × Tl1Cur)} {f : α × Tl1Cur → Option (β × Tl1Cur)} (h : Dr b Q o) (k : ∀ v d, GC b d → Q v → Dr b R (f (v, d))) : Dr b R (o.bind f) := by
  obtain ⟨v, d, rfl, g, q⟩ := h; exact k v d g q
theorem Dr.bindO {γ β : Type} {b : List Int} {R : β → Prop} {x : γ} {o : Option γ} {f : γ → Option (β × Tl1Cur)} (h : o = some x) (k : Dr b R (f x)) : Dr b R (o.bind f) := by
  rw [h]; exact k
theorem Dr.ret {α : Type} {b : List Int} {Q : α → Prop} {v : α} {c : Tl1Cur} (g : GC b c) (q : Q v) : Dr b Q (some (v, c)) := ⟨v, c, rfl, g, q⟩
theorem Dr.ite {α : Type} {b : List Int} {Q : α → Prop} {x y : Option (α × Tl1Cur)} {p : Bool} (h1 : p = true → Dr b Q x) (h2 : p = false → Dr b Q y) : Dr b Q (if p = true then x else y) := by
  cases p with
  | true => exact h1 rfl
  | false => exact h2 rfl
theorem GC.at {b : List Int} {c d : Tl1Cur} (g : GC b d) (h : c.b = b) : GC b (⟨c.b, d.i, d.h⟩ : Tl1Cur) := ⟨h, g.2⟩
theorem below_d {N : Nat} {b : List Int} (hb : b.length ≤ 1048576) {c : Tl1Cur} (g : GC b c) (n : Int) (hn : 0 < n) : Dr b (fun v => 0 ≤ v ∧ v < n) (m_s_l1Below N c n) := by
  obtain ⟨v, d, e, g, h1, h2, -⟩ := below_ok (N := N) b hb c g n
  exact ⟨v, d, e, g, h1, h2 hn⟩
theorem below_d' {N : Nat} {b : List Int} (hb : b.length ≤ 1048576) {c : Tl1Cur} (g : GC b c) (n : Int) : Dr b (fun v => 0 ≤ v ∧ (0 < n → v < n)) (m_s_l1Below N c n) := by
  obtain ⟨v, d, e, g, h1, h2, -⟩ := below_ok (N := N) b hb c g n
  exact ⟨v, d, e, g, h1, h2⟩
theorem app_sm {α : Type} {xs ys : List α} (h : xs.length ≤ 4194304) (h' : ys.length ≤ 4194304) : app xs ys = some (xs ++ ys) := app_ok (by omega)
theorem mem_snoc {α : Type} {P : α → Prop} {xs : List α} {x : α} (h : ∀ a ∈ xs, P a) (h' : P x) : ∀ a ∈ xs ++ [x], P a := fun a ha => by
  rcases List.mem_append.1 ha with h1 | h1
  · exact h a h1
  · simp at h1; rw [h1]; exact h'
theorem once_d {N : Nat} {b : List Int} (hb : b.length ≤ 1048576) {c : Tl1Cur} (g : GC b c) (n : Int) : Dr b (fun _ => True) (m_s_l1Once N c n) := by
  unfold m_s_l1Once
  exact (below_d' hb g n).bind fun v d gd _ => .ret (gd.at g.1) trivial
theorem str_d {N : Nat} {b : List Int} (hb : b.length ≤ 1048576) {c : Tl1Cur} (g : GC b c) (l : List ByteArray) (h : 0 < l.length) : Dr b (fun s => s ∈ l) (m_s_l1Str N c l) := by
  unfold m_s_l1Str
  refine (below_d hb g (l.length : Int) (by omega)).bind fun v d gd q => ?_
  obtain ⟨j, rfl⟩ : ∃ j : Nat, v = (j : Int) := ⟨v.toNat, by omega⟩
  exact .bindO (idx_nat_lt (show j < l.length by omega)) (.ret (gd.at g.1) (List.getElem_mem _))
def drVal (v : TVal) : Prop := (∃ n : Int, 1 ≤ n ∧ n ≤ 3 ∧ v = ⟨1, n, ⟨#[]⟩⟩) ∨ ∃ s ∈ ([⟨#[97]⟩, ⟨#[98]⟩] : List ByteArray), v = ⟨2, 0, s⟩
theorem small_d {N : Nat} {b : List Int} (hb : b.length ≤ 1048576) {c : Tl1Cur} (g : GC b c) : Dr b drVal (m_s_l3Small N c) := by
  unfold m_s_l3Small
  refine (once_d hb g 2).bind fun v d gd _ => .ite (fun _ => ?_) fun _ => ?_
  · exact (below_d hb (gd.at g.1) 3 (by omega)).bind fun w e ge q => .ret (ge.at g.1) (.inl ⟨_, by dsimp only; rw [wr (by omega) (by omega)]; omega, by dsimp only; rw [wr (by omega) (by omega)]; omega, rfl⟩)
  · exact (str_d hb (gd.at g.1) _ (by decide)).bind fun w e ge q => .ret (ge.at g.1) (.inr ⟨w, q, rfl⟩)
theorem drVal_sz {v : TVal} (h : drVal v) : v.S.size ≤ 16 := by
  rcases h with ⟨n, _, _, rfl⟩ | ⟨s, hs, rfl⟩
  · show (0 : Nat) ≤ 16; omega
  · exact (show ∀ s ∈ ([⟨#[97]⟩, ⟨#[98]⟩] : List ByteArray), s.size ≤ 16 by decide) s hs
def shArg (a : TArg) : Prop := a.S.size ≤ 16 ∧ a.V.S.size ≤ 16
def shPat (p : TPat) : Prop := p.Kind.size ≤ 16 ∧ p.Args.length ≤ 16 ∧ ∀ a ∈ p.Args, shArg a
def drArg (a : TArg) : Prop := a = ⟨3, ⟨#[]⟩, ⟨0, 0, ⟨#[]⟩⟩⟩ ∨ (∃ v, drVal v ∧ a = ⟨2, ⟨#[]⟩, v⟩) ∨ ∃ s ∈ ([⟨#[88]⟩, ⟨#[89]⟩, ⟨#[90]⟩, ⟨#[88]⟩] : List ByteArray), a = ⟨1, s, ⟨0, 0, ⟨#[]⟩⟩⟩
theorem drArg_sz {a : TArg} (h : drArg a) : shArg a := by
  rcases h with rfl | ⟨v, hv, rfl⟩ | ⟨s, hs, rfl⟩
  · exact ⟨Nat.zero_le _, Nat.zero_le _⟩
  · exact ⟨Nat.zero_le _, drVal_sz hv⟩
  · exact ⟨(show ∀ s ∈ ([⟨#[88]⟩, ⟨#[89]⟩, ⟨#[90]⟩, ⟨#[88]⟩] : List ByteArray), s.size ≤ 16 by decide) s hs, Nat.zero_le _⟩
theorem arg_d {N : Nat} {b : List Int} (hb : b.length ≤ 1048576) {c : Tl1Cur} (g : GC b c) : Dr b drArg (m_s_l6Arg N c) := by
  unfold m_s_l6Arg
  refine (below_d hb g 6 (by omega)).bind fun v d gd _ => .ite (fun _ => .ret (gd.at g.1) (.inl rfl)) fun _ => .ite (fun _ => ?_) fun _ => ?_
  · exact (small_d hb (gd.at g.1)).bind fun w e ge q => .bindO rfl (.ret (ge.at g.1) (.inr (.inl ⟨w, q, rfl⟩)))
  · exact (str_d hb (gd.at g.1) _ (by decide)).bind fun w e ge q => .bindO rfl (.ret (ge.at g.1) (.inr (.inr ⟨w, q, rfl⟩)))
def drPat (n : Bool) (p : TPat) : Prop := p.Not = n ∧ p.Kind ∈ ([⟨#[111, 114, 100, 101, 114]⟩, ⟨#[112, 97, 105, 100]⟩, ⟨#[105, 116, 101, 109]⟩, ⟨#[111, 114, 100, 101, 114]⟩] : List ByteArray) ∧ p.Args.length ≤ 2 ∧ ∀ a ∈ p.Args, drArg a
theorem drPat_sz {n : Bool} {p : TPat} (h : drPat n p) : shPat p := by
  obtain ⟨_, h1, h2, h3⟩ := h
  exact ⟨(show ∀ s ∈ ([⟨#[111, 114, 100, 101, 114]⟩, ⟨#[112, 97, 105, 100]⟩, ⟨#[105, 116, 101, 109]⟩, ⟨#[111, 114, 100, 101, 114]⟩] : List ByteArray), s.size ≤ 16 by decide) _ h1, by omega, fun a ha => drArg_sz (h3 a ha)⟩
theorem pat_d {N : Nat} (hN : 1099000000000 ≤ N) {b : List Int} (hb : b.length ≤ 1048576) {c : Tl1Cur} (g : GC b c) (nt : Bool) : Dr b (drPat nt) (m_s_l6Draw N c nt) := by
  unfold m_s_l6Draw
  refine (str_d hb g _ (by decide)).bind fun k d gd hk => ?_
  have lp : ∀ (m : Nat), m ≤ 2 → ∀ (n i : Nat) (s : List TArg) (x h : Int), i ≤ m → m - i < n → s.length = i → (∀ a ∈ s, drArg a) → GC b ⟨c.b, x, h⟩ → Dr b (drPat nt) (m_s_l6Draw_l2 N c nt (k, d) (m : Int) n s (i : Int) x h) := by
    intro m hm n
    induction n with
    | zero => intro i _ _ _ _ h; omega
    | succ n ih =>
      intro i s x h hi hn hs ha gx
      simp only [m_s_l6Draw_l2]
      refine .ite (fun hlt => ?_) (fun hge => .ret gx ⟨rfl, hk, by dsimp only; omega, ha⟩)
      have hlt := of_decide_eq_true hlt
      refine (arg_d hb gx).bind fun a e ge q => .bindO (app_sm (by omega) (by simp)) ?_
      rw [wr1 i (by omega)]
      exact ih (i + 1) _ _ _ (by omega) (by omega) (by simp; omega) (mem_snoc ha q) (ge.at (c := ⟨c.b, x, h⟩) gx.1)
  exact .ite (fun _ => lp 2 (by omega) N 0 [] _ _ (by omega) (by omega) rfl (by simp) (gd.at g.1)) (fun _ => lp 1 (by omega) N 0 [] _ _ (by omega) (by omega) rfl (by simp) (gd.at g.1))
def shCond (c : TCond) : Prop := shArg c.L ∧ shArg c.R
def drTerm (a : TArg) : Prop := (∃ v, drVal v ∧ a = ⟨2, ⟨#[]⟩, v⟩) ∨ ∃ s ∈ ([⟨#[88]⟩, ⟨#[89]⟩, ⟨#[90]⟩, ⟨#[88]⟩] : List ByteArray), a = ⟨1, s, ⟨0, 0, ⟨#[]⟩⟩⟩
theorem drTerm_arg {a : TArg} (h : drTerm a) : drArg a := .inr h
theorem term_d {N : Nat} {b : List Int} (hb : b.length ≤ 1048576) {c : Tl1Cur} (g : GC b c) : Dr b drTerm (m_s_l7Arg N c) := by
  unfold m_s_l7Arg
  refine (once_d hb g 3).bind fun v d gd _ => .ite (fun _ => ?_) fun _ => ?_
  · exact (small_d hb (gd.at g.1)).bind fun w e ge q => .bindO rfl (.ret (ge.at g.1) (.inl ⟨w, q, rfl⟩))
  · exact (str_d hb (gd.at g.1) _ (by decide)).bind fun w e ge q => .bindO rfl (.ret (ge.at g.1) (.inr ⟨w, (show ∀ s ∈ ([⟨#[88]⟩, ⟨#[89]⟩] : List ByteArray), s ∈ ([⟨#[88]⟩, ⟨#[89]⟩, ⟨#[90]⟩, ⟨#[88]⟩] : List ByteArray) by simp) w q, rfl⟩))
def drCond (c : TCond) : Prop := 1 ≤ c.Op ∧ c.Op ≤ 3 ∧ drTerm c.L ∧ drTerm c.R
theorem drCond_sz {c : TCond} (h : drCond c) : shCond c := ⟨drArg_sz (drTerm_arg h.2.2.1), drArg_sz (drTerm_arg h.2.2.2)⟩
theorem cond_d {N : Nat} {b : List Int} (hb : b.length ≤ 1048576) {c : Tl1Cur} (g : GC b c) : Dr b drCond (m_s_l7Draw N c) := by
  unfold m_s_l7Draw
  refine (below_d hb g 3 (by omega)).bind fun v d gd q => (term_d hb (gd.at g.1)).bind fun l e ge ql => (term_d hb (ge.at g.1)).bind fun r f gf qr => .ret (gf.at g.1) ⟨?_, ?_, ql, qr⟩
  · dsimp only; rw [wr (by omega) (by omega)]; omega
  · dsimp only; rw [wr (by omega) (by omega)]; omega
theorem int_d {N : Nat} {b : List Int} (hb : b.length ≤ 1048576) {c : Tl1Cur} (g : GC b c) (l : List Int) (h : 0 < l.length) : Dr b (fun s => s ∈ l) (m_s_l1Int N c l) := by
  unfold m_s_l1Int
  refine (below_d hb g (l.length : Int) (by omega)).bind fun v d gd q => ?_
  obtain ⟨j, rfl⟩ : ∃ j : Nat, v = (j : Int) := ⟨v.toNat, by omega⟩
  exact .bindO (idx_nat_lt (show j < l.length by omega)) (.ret (gd.at g.1) (List.getElem_mem _))
def shExpr (e : TExpr) : Prop := e.Op.size ≤ 16 ∧ shArg e.L ∧ shArg e.R
def shAct (a : TAct) : Prop := a.Name.size ≤ 16 ∧ a.Args.length ≤ 16 ∧ (∀ e ∈ a.Args, shExpr e) ∧ a.Undo.size ≤ 16
def noArg : TArg := ⟨0, ⟨#[]⟩, ⟨0, 0, ⟨#[]⟩⟩⟩
def exprW (T : TArg → Prop) (e : TExpr) : Prop := T e.L ∧ ((e.Op = ⟨#[]⟩ ∧ e.R = noArg) ∨ e.Op ∈ ([⟨#[43]⟩, ⟨#[45]⟩] : List ByteArray) ∧ T e.R)
theorem exprW_sz {T : TArg → Prop} (hT : ∀ a, T a → shArg a) {e : TExpr} (h : exprW T e) : shExpr e := by
  obtain ⟨h1, ⟨h2, h3⟩ | ⟨h2, h3⟩⟩ := h
  · exact ⟨by rw [h2]; exact Nat.zero_le _, hT _ h1, by rw [h3]; exact ⟨Nat.zero_le _, Nat.zero_le _⟩⟩
  · exact ⟨(show ∀ s ∈ ([⟨#[43]⟩, ⟨#[45]⟩] : List ByteArray), s.size ≤ 16 by decide) _ h2, hT _ h1, hT _ h3⟩
theorem expr_d {N : Nat} {b : List Int} (hb : b.length ≤ 1048576) {c : Tl1Cur} (g : GC b c) : Dr b (exprW drTerm) (m_s_l8Expr N c) := by
  unfold m_s_l8Expr
  refine (term_d hb g).bind fun l d gd ql => (once_d hb (gd.at g.1) 4).bind fun v e ge _ => .ite (fun _ => ?_) fun _ => ?_
  · exact (str_d hb (ge.at g.1) _ (by decide)).bind fun o f gf qo => (term_d hb (gf.at g.1)).bind fun r k gk qr => .ret (gk.at g.1) ⟨ql, .inr ⟨qo, qr⟩⟩
  · exact .ret (ge.at g.1) ⟨ql, .inl ⟨rfl, rfl⟩⟩
def actW (T : TArg → Prop) (pos : Int) (a : TAct) : Prop := a.Args.length ≤ 2 ∧ (∀ e ∈ a.Args, exprW T e) ∧
  ((a.Kind = 2 ∧ a.Name = ⟨#[]⟩ ∧ a.Args = [] ∧ 0 ≤ a.N ∧ (0 < pos → a.N < pos) ∧ a.Undo = ⟨#[]⟩) ∨
   ((a.Kind = 5 ∨ a.Kind = 6) ∧ a.Name = ⟨#[]⟩ ∧ a.Args = [] ∧ a.N = 0 ∧ a.Undo = ⟨#[]⟩) ∨
   ((a.Kind = 1 ∨ a.Kind = 3 ∨ a.Kind = 4) ∧ a.Name ∈ ([⟨#[111, 114, 100, 101, 114]⟩, ⟨#[112, 97, 105, 100]⟩, ⟨#[105, 116, 101, 109]⟩, ⟨#[115, 104, 105, 112]⟩, ⟨#[99, 104, 97, 114, 103, 101]⟩] : List ByteArray) ∧
     (a.N = 0 ∨ a.Kind = 4 ∧ a.N ∈ ([0, 1, 5, 100000] : List Int)) ∧ (a.Undo = ⟨#[]⟩ ∨ a.Kind = 3 ∧ a.Undo ∈ ([⟨#[114, 101, 102, 117, 110, 100]⟩, ⟨#[99, 97, 110, 99, 101, 108]⟩] : List ByteArray))))
theorem actW_sz {T : TArg → Prop} (hT : ∀ a, T a → shArg a) {pos : Int} {a : TAct} (h : actW T pos a) : shAct a := by
  obtain ⟨h1, h2, h3⟩ := h
  refine ⟨?_, by omega, fun e he => exprW_sz hT (h2 e he), ?_⟩
  · rcases h3 with h | h | h
    · rw [h.2.1]; exact Nat.zero_le _
    · rw [h.2.1]; exact Nat.zero_le _
    · exact (show ∀ s ∈ ([⟨#[111, 114, 100, 101, 114]⟩, ⟨#[112, 97, 105, 100]⟩, ⟨#[105, 116, 101, 109]⟩, ⟨#[115, 104, 105, 112]⟩, ⟨#[99, 104, 97, 114, 103, 101]⟩] : List ByteArray), s.size ≤ 16 by decide) _ h.2.1
  · rcases h3 with h | h | h
    · rw [h.2.2.2.2.2]; exact Nat.zero_le _
    · rw [h.2.2.2.2]; exact Nat.zero_le _
    · rcases h.2.2.2 with h | h
      · rw [h]; exact Nat.zero_le _
      · exact (show ∀ s ∈ ([⟨#[114, 101, 102, 117, 110, 100]⟩, ⟨#[99, 97, 110, 99, 101, 108]⟩] : List ByteArray), s.size ≤ 16 by decide) _ h.2
theorem act_d {N : Nat} (hN : 1099000000000 ≤ N) {b : List Int} (hb : b.length ≤ 1048576) {c : Tl1Cur} (g : GC b c) (pos : Int) : Dr b (actW drTerm pos) (m_s_l8Draw N c pos) := by
  unfold m_s_l8Draw
  refine (int_d hb g _ (by decide)).bind fun k d gd hk => ?_
  dsimp only
  by_cases k2 : k = 2
  · refine .ite (fun _ => ?_) (fun h => absurd k2 (of_decide_eq_false h))
    exact (below_d' hb (gd.at g.1) pos).bind fun v e ge q => .ret (ge.at g.1) ⟨by simp, by simp, .inl ⟨k2, rfl, rfl, q.1, q.2, rfl⟩⟩
  refine .ite (fun h => absurd (of_decide_eq_true h) k2) (fun _ => ?_)
  have j5 : ∀ (nm : ByteArray) (d0 : Tl1Cur) (s3 : List TExpr) (n : Int) (q : Bool) (x h : Int), GC b ⟨c.b, x, h⟩ → (q = true → k = 3) →
      (∀ u, (u = (⟨#[]⟩ : ByteArray) ∨ k = 3 ∧ u ∈ ([⟨#[114, 101, 102, 117, 110, 100]⟩, ⟨#[99, 97, 110, 99, 101, 108]⟩] : List ByteArray)) → actW drTerm pos ⟨k, nm, s3, n, u⟩) → Dr b (actW drTerm pos) (m_s_l8Draw_j5 N c (k, d) (nm, d0) s3 n q x h) := by
    intro nm d0 s3 n q x h gx hq hu
    unfold m_s_l8Draw_j5
    refine .ite (fun hq' => ?_) (fun _ => .ret gx (hu _ (.inl rfl)))
    exact (str_d hb gx _ (by decide)).bind fun u e ge qu => .ret (ge.at (c := ⟨c.b, x, h⟩) gx.1) (hu _ (.inr ⟨hq hq', qu⟩))
  have j4 : ∀ (nm : ByteArray) (d0 : Tl1Cur) (s3 : List TExpr) (n : Int) (x h : Int), GC b ⟨c.b, x, h⟩ →
      (∀ u, (u = (⟨#[]⟩ : ByteArray) ∨ k = 3 ∧ u ∈ ([⟨#[114, 101, 102, 117, 110, 100]⟩, ⟨#[99, 97, 110, 99, 101, 108]⟩] : List ByteArray)) → actW drTerm pos ⟨k, nm, s3, n, u⟩) → Dr b (actW drTerm pos) (m_s_l8Draw_j4 N c (k, d) (nm, d0) s3 x h n) := by
    intro nm d0 s3 n x h gx hu
    unfold m_s_l8Draw_j4
    refine .ite (fun h3 => ?_) (fun _ => j5 _ _ _ _ _ _ _ gx (fun h => by simp at h) hu)
    exact (once_d hb gx 2).bind fun u e ge _ => j5 _ _ _ _ _ _ _ (ge.at (c := ⟨c.b, x, h⟩) gx.1) (fun _ => of_decide_eq_true h3) hu
  have lp : ∀ (nm : ByteArray) (d0 : Tl1Cur), nm ∈ ([⟨#[111, 114, 100, 101, 114]⟩, ⟨#[112, 97, 105, 100]⟩, ⟨#[105, 116, 101, 109]⟩, ⟨#[115, 104, 105, 112]⟩, ⟨#[99, 104, 97, 114, 103, 101]⟩] : List ByteArray) → (k = 1 ∨ k = 3 ∨ k = 4) →
      ∀ (m : Nat), m ≤ 2 → ∀ (n i : Nat) (s : List TExpr) (x h : Int), i ≤ m → m - i < n → s.length = i → (∀ a ∈ s, exprW drTerm a) → GC b ⟨c.b, x, h⟩ → Dr b (actW drTerm pos) (m_s_l8Draw_l3 N c (k, d) (nm, d0) (m : Int) n s (i : Int) x h) := by
    intro nm d0 hnm hk3 m hm n
    induction n with
    | zero => intro i _ _ _ _ h; omega
    | succ n ih =>
      intro i s x h hi hn hs ha gx
      simp only [m_s_l8Draw_l3]
      refine .ite (fun hlt => ?_) (fun hge => .ite (fun h4 => ?_) (fun _ => ?_))
      · have hlt := of_decide_eq_true hlt
        refine (expr_d hb gx).bind fun a e ge q => .bindO (app_sm (by omega) (by simp)) ?_
        rw [wr1 i (by omega)]
        exact ih (i + 1) _ _ _ (by omega) (by omega) (by simp; omega) (mem_snoc ha q) (ge.at (c := ⟨c.b, x, h⟩) gx.1)
      · have h4 : k = 4 := of_decide_eq_true h4
        exact (int_d hb gx _ (by decide)).bind fun v e ge q => j4 _ _ _ _ _ _ (ge.at (c := ⟨c.b, x, h⟩) gx.1) fun u hu => ⟨by dsimp only; omega, ha, .inr (.inr ⟨hk3, hnm, .inr ⟨h4, q⟩, hu⟩)⟩
      · exact j4 _ _ _ _ _ _ gx fun u hu => ⟨by dsimp only; omega, ha, .inr (.inr ⟨hk3, hnm, .inl rfl, hu⟩)⟩
  have j1 : Dr b (actW drTerm pos) (m_s_l8Draw_j1 N c (k, d) true) → k = 5 ∨ k = 6 → Dr b (actW drTerm pos) (m_s_l8Draw_j1 N c (k, d) true) := fun h _ => h
  have jt : k = 5 ∨ k = 6 → Dr b (actW drTerm pos) (m_s_l8Draw_j1 N c (k, d) true) := by
    intro h56
    unfold m_s_l8Draw_j1
    simp only [if_true]
    exact .ret (gd.at g.1) ⟨by simp, by simp, .inr (.inl ⟨h56, rfl, rfl, rfl, rfl⟩)⟩
  have jf : k = 1 ∨ k = 3 ∨ k = 4 → Dr b (actW drTerm pos) (m_s_l8Draw_j1 N c (k, d) false) := by
    intro h134
    unfold m_s_l8Draw_j1
    simp only [Bool.false_eq_true, if_false]
    refine (str_d hb (gd.at g.1) _ (by decide)).bind fun nm e ge hnm => ?_
    unfold m_s_l8Draw_j2
    exact .ite (fun _ => lp nm e hnm h134 2 (by omega) N 0 [] _ _ (by omega) (by omega) rfl (by simp) (ge.at g.1)) (fun _ => lp nm e hnm h134 1 (by omega) N 0 [] _ _ (by omega) (by omega) rfl (by simp) (ge.at g.1))
  have hk' : k = 1 ∨ k = 3 ∨ k = 4 ∨ k = 5 ∨ k = 6 := by
    simp at hk; omega
  by_cases k5 : k = 5
  · rw [decide_eq_true k5]; simp only [if_true]; exact jt (.inl k5)
  · rw [decide_eq_false k5]; simp only [Bool.false_eq_true, if_false]
    by_cases k6 : k = 6
    · rw [decide_eq_true k6]; exact jt (.inr k6)
    · rw [decide_eq_false k6]; exact jf (by omega)
def shRule (r : TRule) : Prop := r.Name.size ≤ 16 ∧ (r.Pats.length ≤ 16 ∧ ∀ p ∈ r.Pats, shPat p) ∧ (r.Conds.length ≤ 16 ∧ ∀ c ∈ r.Conds, shCond c) ∧ r.Acts.length ≤ 16 ∧ ∀ a ∈ r.Acts, shAct a
def fitTerm (vs : List ByteArray) (a : TArg) : Prop := (∃ v, drVal v ∧ a = ⟨2, ⟨#[]⟩, v⟩) ∨ ∃ s ∈ vs, a = ⟨1, s, ⟨0, 0, ⟨#[]⟩⟩⟩
theorem fit_ok {N : Nat} (hN : 1099000000000 ≤ N) {vs : List ByteArray} (hv : vs.length ≤ 4194304) {a : TArg} (h : drTerm a) : ∃ a', m_s_l9Fit N a vs = some a' ∧ fitTerm vs a' := by
  unfold m_s_l9Fit
  rw [known_s hN a vs (by omega), Option.bind_some]
  rcases h with ⟨v, hv, rfl⟩ | ⟨s, hs, rfl⟩
  · exact ⟨_, by simp [known], .inl ⟨v, hv, rfl⟩⟩
  · by_cases hm : s ∈ vs
    · exact ⟨_, by simp [known, hm], .inr ⟨s, hm, rfl⟩⟩
    · have e1 : known vs ⟨1, s, ⟨0, 0, ⟨#[]⟩⟩⟩ = false := by simp [known, hm]
      simp only [e1, Bool.false_eq_true, if_false]
      cases vs with
      | nil => exact ⟨_, rfl, .inl ⟨⟨1, 1, ⟨#[]⟩⟩, .inl ⟨1, by omega, by omega, rfl⟩, rfl⟩⟩
      | cons x t =>
        have e2 : decide (((x :: t).length : Int) = 0) = false := decide_eq_false (by simp only [List.length_cons]; omega)
        have e3 : idx (x :: t) 0 = some x := idx_nat_lt (xs := x :: t) (i := 0) (by simp)
        simp only [e2, Bool.false_eq_true, if_false, e3, Option.bind_some]
        exact ⟨_, rfl, .inr ⟨x, by simp, rfl⟩⟩
theorem fitTerm_sz {vs : List ByteArray} (hv : ∀ s ∈ vs, s.size ≤ 16) {a : TArg} (h : fitTerm vs a) : shArg a := by
  rcases h with ⟨v, h, rfl⟩ | ⟨s, h, rfl⟩
  · exact ⟨Nat.zero_le _, drVal_sz h⟩
  · exact ⟨hv s h, Nat.zero_le _⟩
def drPats (l : List TPat) : Prop := ∃ ps ns, l = ps ++ ns ∧ 1 ≤ ps.length ∧ ps.length ≤ 3 ∧ ns.length ≤ 1 ∧ (∀ p ∈ ps, drPat false p) ∧ ∀ p ∈ ns, drPat true p
theorem drPats_pat {l : List TPat} (h : drPats l) : ∀ p ∈ l, ∃ n, drPat n p := by
  obtain ⟨ps, ns, rfl, -, -, -, h1, h2⟩ := h
  intro p hp
  rcases List.mem_append.1 hp with h | h
  · exact ⟨_, h1 p h⟩
  · exact ⟨_, h2 p h⟩
theorem drPats_len {l : List TPat} (h : drPats l) : 1 ≤ l.length ∧ l.length ≤ 4 := by
  obtain ⟨ps, ns, rfl, h1, h2, h3, -⟩ := h
  rw [List.length_append]; omega
theorem nArgs_le {B : Nat} : ∀ {l : List TPat}, (∀ p ∈ l, p.Args.length ≤ B) → nArgs l ≤ l.length * B
  | [], _ => by simp [nArgs]
  | p :: t, h => by
    have h1 := nArgs_le (l := t) fun q hq => h q (by simp [hq])
    have h2 := h p (by simp)
    have h3 : nArgs (p :: t) = p.Args.length + nArgs t := by simp [nArgs]
    rw [h3, List.length_cons, Nat.succ_mul]; omega
theorem drPats_args {l : List TPat} (h : drPats l) : nArgs l ≤ 8 := by
  have h1 := nArgs_le (B := 2) fun p hp => (drPats_pat h p hp).elim fun n hn => hn.2.2.1
  have := drPats_len h
  omega
theorem argVars_size {B : Nat} {l : List TArg} (h : ∀ a ∈ l, a.S.size ≤ B) : ∀ x ∈ argVars l, x.size ≤ B := fun x hx => by
  obtain ⟨a, ha, _, rfl⟩ := mem_argVars.1 hx; exact h a ha
theorem posNames_size {B : Nat} : ∀ {l : List TPat}, (∀ p ∈ l, ∀ a ∈ p.Args, a.S.size ≤ B) → ∀ x ∈ posNames l, x.size ≤ B
  | [], _, x, hx => by simp [posNames] at hx
  | p :: t, h, x, hx => by
    unfold posNames at hx
    split at hx
    · exact posNames_size (fun q hq => h q (by simp [hq])) x hx
    · rcases List.mem_append.1 hx with hx | hx
      · exact argVars_size (h p (by simp)) x hx
      · exact posNames_size (fun q hq => h q (by simp [hq])) x hx
def bnd (l : List TPat) : List ByteArray := (posNames l).foldl once []
theorem bnd_sz {l : List TPat} (h : drPats l) : ∀ s ∈ bnd l, s.size ≤ 16 := onces_size (posNames_size fun p hp a ha => (drPats_pat h p hp).elim fun n hn => (drArg_sz (hn.2.2.2 a ha)).1) (by simp)
theorem bnd_len {l : List TPat} (h : drPats l) : (bnd l).length ≤ 8 := by
  have h1 := onces_len (posNames l) []
  have h2 := posNames_len l
  have h3 := drPats_args h
  simp only [List.length_nil] at h1
  unfold bnd; omega
def drRule (nm : ByteArray) (r : TRule) : Prop := r.Name = nm ∧ r.Sal ∈ ([0, 0, 5, (-5), 100] : List Int) ∧ drPats r.Pats ∧ (r.Conds.length ≤ 1 ∧ ∀ c ∈ r.Conds, 1 ≤ c.Op ∧ c.Op ≤ 3 ∧ fitTerm (bnd r.Pats) c.L ∧ fitTerm (bnd r.Pats) c.R) ∧
  (1 ≤ r.Acts.length ∧ r.Acts.length ≤ 3 ∧ ∀ a ∈ r.Acts, actW (fitTerm (bnd r.Pats)) (posCount r.Pats) a)
theorem drRule_sz {nm : ByteArray} {r : TRule} (hn : nm.size ≤ 16) (h : drRule nm r) : shRule r := by
  obtain ⟨h1, _, h3, ⟨h4, h4'⟩, h5, h6, h7⟩ := h
  have hT : ∀ a, fitTerm (bnd r.Pats) a → shArg a := fun a ha => fitTerm_sz (bnd_sz h3) ha
  have := drPats_len h3
  exact ⟨by rw [h1]; exact hn, ⟨by omega, fun p hp => (drPats_pat h3 p hp).elim fun n hn => drPat_sz hn⟩, ⟨by omega, fun c hc => ⟨hT _ (h4' c hc).2.2.1, hT _ (h4' c hc).2.2.2⟩⟩, by omega, fun a ha => actW_sz hT (h7 a ha)⟩
theorem fits {N : Nat} (hN : 1099000000000 ≤ N) {b : List Int} {vs : List ByteArray} (hv : vs.length ≤ 4194304) (s11 : List TAct) (s12 : Int) (K : List TAct → Int → Int → Int → Option (TRule × Tl1Cur)) (x10 : TAct × Tl1Cur) {R : TRule → Prop} {m : Nat} (hm : m ≤ 4194304)
    (hK : ∀ es : List TExpr, es.length = m → (∀ e ∈ es, exprW (fitTerm vs) e) → Dr b R ((app s11 [⟨x10.1.Kind, x10.1.Name, es, x10.1.N, x10.1.Undo⟩]).bind fun x14 => K x14 (IntKind.i64.wrap (s12 - 1)) x10.2.i x10.2.h)) :
    ∀ (n : Nat) (todo done : List TExpr), todo.length < n → done.length + todo.length = m → (∀ e ∈ done, exprW (fitTerm vs) e) → (∀ e ∈ todo, exprW drTerm e) → Dr b R (m_s_l9Draw_l5 N vs s11 s12 K x10 n (done ++ todo) (done.length : Int)) := by
  intro n
  induction n with
  | zero => intro _ _ h; omega
  | succ n ih =>
    intro todo done hn hl hd ht
    simp only [m_s_l9Draw_l5]
    cases todo with
    | nil =>
      have e1 : decide ((done.length : Int) < ((done ++ ([] : List TExpr)).length : Int)) = false := decide_eq_false (by simp)
      rw [e1]
      simp only [Bool.false_eq_true, if_false, List.append_nil]
      exact hK done (by simpa using hl) hd
    | cons e t =>
      have e1 : decide ((done.length : Int) < ((done ++ e :: t).length : Int)) = true := decide_eq_true (by simp; omega)
      have e2 : idx (done ++ e :: t) (done.length : Int) = some e := by
        rw [idx_nat_lt (show done.length < (done ++ e :: t).length by simp)]; simp
      have hset : ∀ y, (done ++ e :: t).set ((done.length : Int)).toNat y = (done ++ [y]) ++ t := fun y => by
        rw [Int.toNat_natCast, List.set_append_right _ _ (Nat.le_refl _)]; simp
      simp only [List.length_cons] at hn hl
      rw [e1]
      simp only [if_true]
      refine .bindO e2 ?_
      obtain ⟨hL, hR⟩ := ht e (by simp)
      obtain ⟨l', el, hl'⟩ := fit_ok hN hv hL
      refine .bindO el ?_
      have next : ∀ y, exprW (fitTerm vs) y → Dr b R (m_s_l9Draw_l5 N vs s11 s12 K x10 n ((done ++ e :: t).set ((done.length : Int)).toNat y) (IntKind.i64.wrap ((done.length : Int) + 1))) := by
        intro y hy
        rw [hset, wr1 _ (by omega)]
        have := ih t (done ++ [y]) (by omega) (by simp; omega) (mem_snoc hd hy) (fun a ha => ht a (by simp [ha]))
        simpa using this
      rcases hR with ⟨hO, hR⟩ | ⟨hO, hR⟩
      · have e3 : (!seq e.Op ⟨#[]⟩) = false := by rw [seq_eq, hO]; simp
        rw [e3]
        exact next _ ⟨hl', .inl ⟨hO, hR⟩⟩
      · have e3 : (!seq e.Op ⟨#[]⟩) = true := by
          have : e.Op ≠ ⟨#[]⟩ := (show ∀ s ∈ ([⟨#[43]⟩, ⟨#[45]⟩] : List ByteArray), s ≠ ⟨#[]⟩ by decide) _ hO
          rw [seq_eq]; simp [this]
        rw [e3]
        obtain ⟨r', er, hr'⟩ := fit_ok hN hv hR
        exact .bindO er (next _ ⟨hl', .inr ⟨hO, hr'⟩⟩)
theorem posVars_d {N : Nat} (hN : 1099000000000 ≤ N) (r : TRule) (h : drPats r.Pats) : m_s_PosVars N r = some (bnd r.Pats) := by
  have h1 := drPats_len h
  have h2 := drPats_args h
  exact posVars_s hN r (by omega) (by omega) fun p hp => by
    obtain ⟨n, hn⟩ := drPats_pat h p hp
    have := hn.2.2.1
    omega
theorem rule_d {N : Nat} (hN : 1099000000000 ≤ N) {b : List Int} (hb : b.length ≤ 1048576) {c : Tl1Cur} (g : GC b c) (nm : ByteArray) : Dr b (drRule nm) (m_s_l9Draw N c nm) := by
  unfold m_s_l9Draw
  refine (int_d hb g _ (by decide)).bind fun sal d gd hs => (below_d hb (gd.at g.1) 3 (by omega)).bind fun v0 e0 ge0 q0 => ?_
  -- the acts
  have l4 : ∀ (pats : List TPat) (conds : List TCond), drPats pats → (conds.length ≤ 1 ∧ ∀ c ∈ conds, 1 ≤ c.Op ∧ c.Op ≤ 3 ∧ fitTerm (bnd pats) c.L ∧ fitTerm (bnd pats) c.R) →
      ∀ (n : Nat) (s : List TAct) (k x h : Int), 0 ≤ k → k < n → 1 ≤ s.length + k → s.length + k ≤ 3 → (∀ a ∈ s, actW (fitTerm (bnd pats)) (posCount pats) a) → GC b ⟨c.b, x, h⟩ → Dr b (drRule nm) (m_s_l9Draw_l4 N c nm (sal, d) pats (bnd pats) conds n s k x h) := by
    intro pats conds hp hc n
    have hpl := drPats_len hp
    induction n with
    | zero => intro s k x h h0 h1; omega
    | succ n ih =>
      intro s k x h h0 h1 h2 h3 ha gx
      simp only [m_s_l9Draw_l4]
      refine .ite (fun hk => ?_) (fun hk => ?_)
      · have hk := of_decide_eq_true hk
        refine .bindO (count_s hN _ (show pats.length ≤ 1048576 by omega)) ((act_d hN hb gx _).bind fun a f gf qa => ?_)
        have hal := qa.1
        have := fits hN (b := b) (vs := bnd pats) (by have := bnd_len hp; omega) s k (m_s_l9Draw_l4 N c nm (sal, d) pats (bnd pats) conds n) (a, f) (R := drRule nm) (m := a.Args.length) (by omega) (fun es hl he => by
          refine .bindO (app_sm (by omega) (by simp)) ?_
          rw [wrm hk (by omega)]
          refine ih _ (k - 1) _ _ (by omega) (by omega) (by simp; omega) (by simp; omega) (mem_snoc ha ?_) (gf.at (c := ⟨c.b, x, h⟩) gx.1)
          refine ⟨by dsimp only; omega, he, ?_⟩
          rcases qa.2.2 with h | h | h
          · exact .inl ⟨h.1, h.2.1, by have := h.2.2.1; rw [this] at hl; exact List.eq_nil_of_length_eq_zero hl, h.2.2.2⟩
          · exact .inr (.inl ⟨h.1, h.2.1, by have := h.2.2.1; rw [this] at hl; exact List.eq_nil_of_length_eq_zero hl, h.2.2.2⟩)
          · exact .inr (.inr h)) N a.Args [] (by omega) (by simp) (by simp) qa.2.1
        exact this
      · have hk := of_decide_eq_false hk
        exact .ret gx ⟨rfl, hs, hp, hc, by dsimp only; omega, by dsimp only; omega, ha⟩
  have j3 : ∀ (pats : List TPat) (conds : List TCond), drPats pats → (conds.length ≤ 1 ∧ ∀ c ∈ conds, 1 ≤ c.Op ∧ c.Op ≤ 3 ∧ fitTerm (bnd pats) c.L ∧ fitTerm (bnd pats) c.R) → ∀ (x h : Int), GC b ⟨c.b, x, h⟩ → Dr b (drRule nm) (m_s_l9Draw_j3 N c nm (sal, d) pats (bnd pats) conds x h) := by
    intro pats conds hp hc x h gx
    unfold m_s_l9Draw_j3
    refine (below_d hb gx 3 (by omega)).bind fun v e ge q => ?_
    dsimp only
    rw [wr (show -9223372036854775808 ≤ 1 + v by omega) (by omega)]
    exact l4 pats conds hp hc N [] _ _ _ (by omega) (by omega) (by simp; omega) (by simp; omega) (by simp) (ge.at (c := ⟨c.b, x, h⟩) gx.1)
  have j2 : ∀ (pats : List TPat), drPats pats → ∀ (x h : Int), GC b ⟨c.b, x, h⟩ → Dr b (drRule nm) (m_s_l9Draw_j2 N c nm (sal, d) pats x h) := by
    intro pats hp x h gx
    unfold m_s_l9Draw_j2
    have hv : (bnd pats).length ≤ 4194304 := by have := bnd_len hp; omega
    refine .bindO (posVars_d hN _ hp) ((once_d hb gx 3).bind fun v e ge _ => .ite (fun _ => ?_) (fun _ => ?_))
    · refine (cond_d hb (ge.at (c := ⟨c.b, x, h⟩) gx.1)).bind fun cd f gf qc => ?_
      obtain ⟨l', el, hl⟩ := fit_ok hN hv qc.2.2.1
      obtain ⟨r', er, hr⟩ := fit_ok hN hv qc.2.2.2
      refine .bindO el (.bindO er (.bindO (app_sm (by simp) (by simp)) ?_))
      exact j3 pats _ hp ⟨by simp, by simp; exact ⟨qc.1, qc.2.1, hl, hr⟩⟩ _ _ (gf.at (c := ⟨c.b, x, h⟩) gx.1)
    · exact j3 pats [] hp ⟨by simp, by simp⟩ _ _ (ge.at (c := ⟨c.b, x, h⟩) gx.1)
  have l1 : ∀ (n : Nat) (s : List TPat) (k x h : Int), 0 ≤ k → k < n → 1 ≤ s.length + k → s.length + k ≤ 3 → (∀ p ∈ s, drPat false p) → GC b ⟨c.b, x, h⟩ → Dr b (drRule nm) (m_s_l9Draw_l1 N c nm (sal, d) n s k x h) := by
    intro n
    induction n with
    | zero => intro s k x h h0 h1; omega
    | succ n ih =>
      intro s k x h h0 h1 h2 h3 hp gx
      simp only [m_s_l9Draw_l1]
      refine .ite (fun hk => ?_) (fun hk => ?_)
      · have hk := of_decide_eq_true hk
        refine (pat_d hN hb gx false).bind fun p f gf qp => .bindO (app_sm (by omega) (by simp)) ?_
        rw [wrm hk (by omega)]
        exact ih _ (k - 1) _ _ (by omega) (by omega) (by simp; omega) (by simp; omega) (mem_snoc hp qp) (gf.at (c := ⟨c.b, x, h⟩) gx.1)
      · have hk := of_decide_eq_false hk
        refine (once_d hb gx 3).bind fun v f gf _ => .ite (fun _ => ?_) (fun _ => ?_)
        · refine (pat_d hN hb (gf.at (c := ⟨c.b, x, h⟩) gx.1) true).bind fun p f' gf' qp => .bindO (app_sm (by omega) (by simp)) ?_
          exact j2 _ ⟨s, [p], rfl, by omega, by omega, by simp, hp, by simpa using qp⟩ _ _ (gf'.at (c := ⟨c.b, x, h⟩) gx.1)
        · exact j2 _ ⟨s, [], by simp, by omega, by omega, by simp, hp, by simp⟩ _ _ (gf.at (c := ⟨c.b, x, h⟩) gx.1)
  dsimp only
  rw [wr (show -9223372036854775808 ≤ 1 + v0 by omega) (by omega)]
  exact l1 N [] _ _ _ (by omega) (by omega) (by simp; omega) (by simp; omega) (by simp) (ge0.at g.1)
theorem wr5 {v : Int} (h : 0 ≤ v) (h' : v < 4294967296) : IntKind.i64.wrap (5 + v) = 5 + v := wr (by omega) (by omega)
theorem patAny_d {N : Nat} (hN : 1099000000000 ≤ N) {b : List Int} (hb : b.length ≤ 1048576) {c : Tl1Cur} (g : GC b c) : Dr b shPat (m_s_l6Any N c) := by
  unfold m_s_l6Any
  refine (once_d hb g 3).bind fun nt d0 g0 _ => (pat_d hN hb (g0.at g.1) nt).bind fun p d gd hp => (below_d hb (gd.at g.1) 10 (by omega)).bind fun v e ge _ => ?_
  obtain ⟨s1, s2, s3⟩ := drPat_sz hp
  refine .ite (fun _ => ?_) fun _ => .ite (fun _ => ?_) fun _ => .ite (fun _ => ?_) fun _ => .ret (ge.at g.1) ⟨s1, s2, s3⟩
  · exact (str_d hb (ge.at g.1) _ (by decide)).bind fun k f gf hk => .ret (gf.at g.1) ⟨(show ∀ s ∈ ([⟨#[]⟩, ⟨#[65]⟩, ⟨#[120]⟩] : List ByteArray), s.size ≤ 16 by decide) _ hk, s2, s3⟩
  · refine (below_d hb (ge.at g.1) 5 (by omega)).bind fun k f gf hk => (str_d hb (gf.at g.1) _ (by decide)).bind fun s f' gf' hs => .bindO (app_sm (show p.Args.length ≤ 4194304 by have := hp.2.2.1; omega) (by simp)) (.ret (gf'.at g.1) ⟨s1, ?_, mem_snoc s3 ⟨?_, Nat.zero_le _⟩⟩)
    · have := hp.2.2.1; simp; omega
    · exact (show ∀ s ∈ ([⟨#[]⟩, ⟨#[120]⟩, ⟨#[88]⟩] : List ByteArray), s.size ≤ 16 by decide) _ hs
  · have lp : ∀ (n : Nat) (s : List TArg) (x h : Int), s.length ≤ 6 → 6 - s.length < n → (∀ a ∈ s, shArg a) → GC b ⟨c.b, x, h⟩ → Dr b shPat (m_s_l6Any_l3 N c (p, d) n s x h) := by
      intro n
      induction n with
      | zero => intro s _ _ _ h; omega
      | succ n ih =>
        intro s x h hl hn hs gx
        simp only [m_s_l6Any_l3]
        refine (below_d hb gx 2 (by omega)).bind fun w f gf hw => ?_
        dsimp only
        rw [wr5 hw.1 (by omega)]
        refine .ite (fun hlt => ?_) (fun _ => .ret (gf.at (c := ⟨c.b, x, h⟩) gx.1) ⟨s1, by dsimp only; omega, hs⟩)
        have hlt := of_decide_eq_true hlt
        refine (arg_d hb (gf.at (c := ⟨c.b, x, h⟩) gx.1)).bind fun a f' gf' qa => .bindO (app_sm (by omega) (by simp)) ?_
        exact ih _ _ _ (by simp; omega) (by simp; omega) (mem_snoc hs (drArg_sz qa)) (gf'.at (c := ⟨c.b, x, h⟩) gx.1)
    exact lp N p.Args _ _ (by have := hp.2.2.1; omega) (by omega) s3 (ge.at g.1)
theorem condAny_d {N : Nat} {b : List Int} (hb : b.length ≤ 1048576) {c : Tl1Cur} (g : GC b c) : Dr b shCond (m_s_l7Any N c) := by
  unfold m_s_l7Any
  refine (cond_d hb g).bind fun cd d gd hc => (below_d hb (gd.at g.1) 8 (by omega)).bind fun v e ge _ => ?_
  obtain ⟨s1, s2⟩ := drCond_sz hc
  refine .ite (fun _ => ?_) fun _ => .ite (fun _ => ?_) fun _ => .ite (fun _ => ?_) fun _ => .ret (ge.at g.1) ⟨s1, s2⟩
  · exact (below_d hb (ge.at g.1) 6 (by omega)).bind fun k f gf _ => .ret (gf.at g.1) ⟨s1, s2⟩
  · exact (arg_d hb (ge.at g.1)).bind fun k f gf qa => .ret (gf.at g.1) ⟨drArg_sz qa, s2⟩
  · exact (below_d hb (ge.at g.1) 5 (by omega)).bind fun k f gf _ => .ret (gf.at g.1) ⟨s1, Nat.zero_le _, Nat.zero_le _⟩
theorem str3 : ∀ s ∈ ([⟨#[]⟩, ⟨#[65]⟩, ⟨#[120]⟩] : List ByteArray), s.size ≤ 16 := by decide
theorem actAny_d {N : Nat} (hN : 1099000000000 ≤ N) {b : List Int} (hb : b.length ≤ 1048576) {c : Tl1Cur} (g : GC b c) : Dr b shAct (m_s_l8Any N c) := by
  unfold m_s_l8Any
  refine (act_d hN hb g 2).bind fun a d gd ha => (below_d hb (gd.at g.1) 10 (by omega)).bind fun v e ge _ => ?_
  obtain ⟨s1, s2, s3, s4⟩ := actW_sz (fun a h => drArg_sz (drTerm_arg h)) ha
  refine .ite (fun _ => ?_) fun _ => .ite (fun _ => ?_) fun _ => .ite (fun _ => ?_) fun _ => .ite (fun _ => ?_) fun _ => .ite (fun _ => ?_) fun _ => .ret (ge.at g.1) ⟨s1, s2, s3, s4⟩
  · exact (below_d hb (ge.at g.1) 8 (by omega)).bind fun k f gf _ => .ret (gf.at g.1) ⟨s1, s2, s3, s4⟩
  · exact (str_d hb (ge.at g.1) _ (by decide)).bind fun k f gf hk => .ret (gf.at g.1) ⟨str3 _ hk, s2, s3, s4⟩
  · exact (int_d hb (ge.at g.1) _ (by decide)).bind fun k f gf hk => .ret (gf.at g.1) ⟨s1, s2, s3, s4⟩
  · exact (str_d hb (ge.at g.1) _ (by decide)).bind fun k f gf hk => .ret (gf.at g.1) ⟨s1, s2, s3, str3 _ hk⟩
  · refine (str_d hb (ge.at g.1) _ (by decide)).bind fun k f gf hk => (arg_d hb (gf.at g.1)).bind fun l f1 g1 ql => (arg_d hb (g1.at g.1)).bind fun r f2 g2 qr => .bindO (app_sm (show a.Args.length ≤ 4194304 by omega) (by simp)) (.ret (g2.at g.1) ⟨s1, ?_, mem_snoc s3 ⟨?_, drArg_sz ql, drArg_sz qr⟩, s4⟩)
    · have := ha.1; simp; omega
    · exact (show ∀ s ∈ ([⟨#[]⟩, ⟨#[42]⟩] : List ByteArray), s.size ≤ 16 by decide) _ hk
def shRule' (r : TRule) : Prop := shRule r ∧ 1 ≤ r.Pats.length ∧ r.Pats.length ≤ 15 ∧ r.Conds.length ≤ 15 ∧ r.Acts.length ≤ 15
theorem ssl00 {α : Type} (l : List α) : ssl l 0 0 = some [] := by
  unfold ssl
  simp
theorem bend_d {N : Nat} (hN : 1099000000000 ≤ N) {b : List Int} (hb : b.length ≤ 1048576) {c : Tl1Cur} (g : GC b c) {r : TRule} (hr : shRule' r) : Dr b shRule (m_s_l9Bend N c r) := by
  obtain ⟨⟨s1, ⟨s2, s2'⟩, ⟨s3, s3'⟩, s4, s4'⟩, l0, l1, l2, l3⟩ := hr
  unfold m_s_l9Bend
  refine .bindO (app_nil (show r.Pats.length ≤ 4294967296 by omega)) ((below_d hb g 10 (by omega)).bind fun v e ge _ => ?_)
  refine .ite (fun _ => ?_) fun _ => .ite (fun _ => ?_) fun _ => .ite (fun _ => ?_) fun _ => .ite (fun _ => ?_) fun _ => .ite (fun _ => ?_) fun _ => .ite (fun _ => ?_) fun _ => .ite (fun _ => ?_) fun _ => .ret (ge.at g.1) ⟨s1, ⟨s2, s2'⟩, ⟨s3, s3'⟩, s4, s4'⟩
  · exact (str_d hb (ge.at g.1) _ (by decide)).bind fun k f gf hk => .ret (gf.at g.1) ⟨str3 _ hk, ⟨s2, s2'⟩, ⟨s3, s3'⟩, s4, s4'⟩
  · exact (int_d hb (ge.at g.1) _ (by decide)).bind fun k f gf hk => .ret (gf.at g.1) ⟨s1, ⟨s2, s2'⟩, ⟨s3, s3'⟩, s4, s4'⟩
  · exact (patAny_d hN hb (ge.at g.1)).bind fun p f gf hp => .bindO (app_sm (by omega) (by simp)) (.ret (gf.at g.1) ⟨s1, ⟨by simp; omega, mem_snoc s2' hp⟩, ⟨s3, s3'⟩, s4, s4'⟩)
  · exact .bindO (app_nil (show r.Conds.length ≤ 4294967296 by omega)) ((condAny_d hb (ge.at g.1)).bind fun p f gf hp => .bindO (app_sm (by omega) (by simp)) (.ret (gf.at g.1) ⟨s1, ⟨s2, s2'⟩, ⟨by simp; omega, mem_snoc s3' hp⟩, s4, s4'⟩))
  · exact .bindO (app_nil (show r.Acts.length ≤ 4294967296 by omega)) ((actAny_d hN hb (ge.at g.1)).bind fun p f gf hp => .bindO (app_sm (by omega) (by simp)) (.ret (gf.at g.1) ⟨s1, ⟨s2, s2'⟩, ⟨s3, s3'⟩, by simp; omega, mem_snoc s4' hp⟩))
  · have e0 : idx r.Pats 0 = some (r.Pats[0]'(by omega)) := idx_nat_lt (xs := r.Pats) (i := 0) (by omega)
    have h0 := s2' r.Pats[0] (List.getElem_mem _)
    refine .bindO e0 (.ret (ge.at g.1) ⟨s1, ⟨by simpa using s2, fun p hp => ?_⟩, ⟨s3, s3'⟩, s4, s4'⟩)
    rcases List.mem_or_eq_of_mem_set hp with h | h
    · exact s2' p h
    · rw [h]; exact h0
  · exact .bindO (ssl00 r.Acts) (.ret (ge.at g.1) ⟨s1, ⟨s2, s2'⟩, ⟨s3, s3'⟩, by simp, by simp⟩)
theorem drRule_sh {nm : ByteArray} {r : TRule} (hn : nm.size ≤ 16) (h : drRule nm r) : shRule' r := by
  have h1 := drRule_sz hn h
  have h2 := drPats_len h.2.2.1
  have h3 := h.2.2.2.1.1
  have h4 := h.2.2.2.2.2.1
  exact ⟨h1, by omega, by omega, by omega, by omega⟩
theorem ruleAny_d {N : Nat} (hN : 1099000000000 ≤ N) {b : List Int} (hb : b.length ≤ 1048576) {c : Tl1Cur} (g : GC b c) : Dr b shRule (m_s_l9Any N c) := by
  unfold m_s_l9Any
  refine (str_d hb g _ (by decide)).bind fun nm d0 g0 hnm => (rule_d hN hb (g0.at g.1) nm).bind fun r d gd hr => (once_d hb (gd.at g.1) 3).bind fun v e ge _ => ?_
  have h1 := drRule_sh ((show ∀ s ∈ ([⟨#[114, 49]⟩, ⟨#[114, 50]⟩, ⟨#[115, 104, 105, 112]⟩] : List ByteArray), s.size ≤ 16 by decide) _ hnm) hr
  refine .ite (fun _ => ?_) fun _ => .ret (ge.at g.1) h1.1
  exact (bend_d hN hb (ge.at g.1) h1).bind fun q f gf hq => .ret (gf.at g.1) hq
theorem shArg_Sz {a : TArg} (h : shArg a) : SzArg a := by have := h.1; have := h.2; exact ⟨by omega, by omega⟩
theorem shPat_Sz {p : TPat} (h : shPat p) : SzPat p := by
  obtain ⟨h1, h2, h3⟩ := h
  exact ⟨by omega, by omega, fun a ha => shArg_Sz (h3 a ha)⟩
theorem shCond_Sz {c : TCond} (h : shCond c) : SzCond c := ⟨shArg_Sz h.1, shArg_Sz h.2⟩
theorem shExpr_Sz {e : TExpr} (h : shExpr e) : SzExpr e := by
  obtain ⟨h1, h2, h3⟩ := h
  exact ⟨by omega, shArg_Sz h2, shArg_Sz h3⟩
theorem shAct_Sz {a : TAct} (h : shAct a) : SzAct a := by
  obtain ⟨h1, h2, h3, h4⟩ := h
  exact ⟨by omega, by omega, by omega, fun a ha => shExpr_Sz (h3 a ha)⟩
theorem nExprs_le {B : Nat} : ∀ {l : List TAct}, (∀ p ∈ l, p.Args.length ≤ B) → nExprs l ≤ l.length * B
  | [], _ => by simp [nExprs]
  | p :: t, h => by
    have h1 := nExprs_le (l := t) fun q hq => h q (by simp [hq])
    have h2 := h p (by simp)
    have h3 : nExprs (p :: t) = p.Args.length + nExprs t := by simp [nExprs]
    rw [h3, List.length_cons, Nat.succ_mul]; omega
theorem shRule_Sz {r : TRule} (h : shRule r) : SzRule r := by
  obtain ⟨h1, ⟨h2, h2'⟩, ⟨h3, h3'⟩, h4, h4'⟩ := h
  have h5 := nArgs_le (B := 16) fun p hp => (h2' p hp).2.1
  have h6 := nExprs_le (B := 16) fun a ha => (h4' a ha).2.1
  exact ⟨by omega, ⟨by omega, fun p hp => shPat_Sz (h2' p hp)⟩, ⟨by omega, fun c hc => shCond_Sz (h3' c hc)⟩, ⟨by omega, fun a ha => shAct_Sz (h4' a ha)⟩, by omega, by
    have : nExprs r.Acts ≤ 1048576 := by omega
    exact this⟩
theorem patsFrom_at {c : Nat} : ∀ (l : List TPat) (i : Nat), patsFrom c i l = true → ∀ (j : Nat) (p : TPat), l[j]? = some p → p.Not = decide (c ≤ i + j)
  | [], i, h, j, p, hj => by simp at hj
  | q :: l, i, h, j, p, hj => by
    unfold patsFrom at h
    simp only [Bool.and_eq_true, beq_iff_eq] at h
    cases j with
    | zero => simp at hj; subst hj; exact h.2.1
    | succ j =>
      have := patsFrom_at l (i + 1) h.2.2 j p (by simpa using hj)
      rw [this]
      congr 1
      rw [eq_iff_iff]
      omega
theorem ruleText_pos (r : TRule) : 0 < (ruleText r).size := by
  unfold ruleText
  simp only [ByteArray.size_append]
  have : (⟨#[46, 10]⟩ : ByteArray).size = 2 := rfl
  omega
theorem rulesEnd {N : Nat} (hN : 1099000000000 ≤ N) {r : TRule} (hs : SzRule r) (s : ByteArray) (n : Int) (he : s = if okRule r = true then ruleText r else ⟨#[]⟩) (hn : okRule r = true → 1 ≤ n ∧ n ≤ 3) :
    ((cat (⟨#[100, 101, 102, 32, 120, 46, 32]⟩ : ByteArray) s).bind fun z1 => ((m_i_ParseDef N z1).bind fun x9 => ((if !(okRule r) then some true else ((if x9.2 then some (decide ((x9.1.Rules.length : Int) = 1)) else some false).bind fun b4 => ((if b4 then ((idx x9.1.Rules 0).bind fun x10 => ((m_i_RuleText N x10).bind fun x11 => some (seq x11 s))) else some false).bind fun b5 => ((if b5 then some (decide (1 ≤ n)) else some false).bind fun b6 => ((if b6 then some (decide (n ≤ 3)) else some false).bind fun b7 => some b7))))).bind fun b3 => some b3))) = some true := by
  cases h : okRule r with
  | false =>
    rw [h, if_neg (by decide)] at he
    subst he
    rw [cat_k (by decide), Option.bind_some, pd_i hN _ (by decide), Option.bind_some]
    rfl
  | true =>
    rw [h, if_pos rfl] at he
    subst he
    have hl := ruleText_len h
    obtain ⟨n1, n2⟩ := hn h
    have ht := ruleT_i hN r hs
    rw [h, if_pos rfl] at ht
    rw [cat_k (by show 7 + _ ≤ _; omega), Option.bind_some, pd_i hN _ (by rw [ByteArray.size_append]; show 7 + _ ≤ _; omega), Option.bind_some, parsed_x h]
    have e0 : idx (xDef r).Rules 0 = some r := rfl
    have e1 : decide (((xDef r).Rules.length : Int) = 1) = true := rfl
    simp only [Bool.not_true, Bool.false_eq_true, if_false, if_true, Option.bind_some, e1, e0, ht, seq_self, decide_eq_true n1, decide_eq_true n2]
theorem rulesL0 {N : Nat} (hN : 1099000000000 ≤ N) {r : TRule} (hs : SzRule r) (s : ByteArray) (he : s = if okRule r = true then ruleText r else ⟨#[]⟩) :
    ∀ (k i : Nat), i ≤ r.Pats.length → r.Pats.length - i < k → m_l_FnRules_l1 N r (okRule r) s (posCount r.Pats : Int) k (i : Int) = some true
  | 0, i, _, h => by omega
  | k + 1, i, hi, hk => by
    have hl := hs.2.1.1
    have hn : okRule r = true → 1 ≤ (posCount r.Pats : Int) ∧ (posCount r.Pats : Int) ≤ 3 := fun h => by
      unfold okRule okPats at h
      simp only [Bool.and_eq_true, decide_eq_true_eq] at h
      omega
    have hE := rulesEnd hN hs s (posCount r.Pats : Int) he hn
    simp only [m_l_FnRules_l1]
    by_cases c : i < r.Pats.length
    · have hc : decide ((i : Int) < (r.Pats.length : Int)) = true := decide_eq_true (by omega)
      rw [hc]
      cases h : okRule r with
      | false =>
        rw [h] at hE
        simp only [if_true, Option.bind_some, Bool.false_eq_true, if_false]
        exact hE
      | true =>
        simp only [if_true, Option.bind_some, idx_nat_lt c]
        have hx : (r.Pats[i]).Not = decide (posCount r.Pats ≤ i) := by
          unfold okRule okPats at h
          simp only [Bool.and_eq_true, decide_eq_true_eq] at h
          have := patsFrom_at _ 0 h.2.2.1.2.2 i _ (List.getElem?_eq_getElem c)
          rw [this]; congr 1; rw [eq_iff_iff]; omega
        have hd : decide ((posCount r.Pats : Int) ≤ (i : Int)) = decide (posCount r.Pats ≤ i) := by rw [decide_eq_decide]; omega
        rw [hx, hd, bne_self_eq_false, if_neg (by simp), wr1 i (by omega)]
        have := rulesL0 hN hs s he k (i + 1) (by omega) (by omega)
        rw [h] at this
        exact this
    · have hc : decide ((i : Int) < (r.Pats.length : Int)) = false := decide_eq_false (by omega)
      rw [hc]
      simp only [Bool.false_eq_true, if_false, Option.bind_some]
      exact hE
theorem law_FnRules {N : Nat} (hN : 1099000000000 ≤ N) (b : List Int) : m_l_FnRules N b = some true := by
  unfold m_l_FnRules m_l_big
  by_cases hb : b.length ≤ 1048576
  · have c1 : decide (1048576 < (b.length : Int)) = false := decide_eq_false (by omega)
    obtain ⟨c, e0', g0⟩ := new_ok hN b hb
    obtain ⟨r, k, e1, g1, hr⟩ := ruleAny_d hN hb g0
    have hs := shRule_Sz hr
    have ht := ruleT_i hN r hs
    have hq : (!seq (if okRule r = true then ruleText r else ⟨#[]⟩) ⟨#[]⟩) = okRule r := by
      cases h : okRule r with
      | false => rw [if_neg (by decide), seq_self]; rfl
      | true =>
        have : seq (ruleText r) ⟨#[]⟩ = false := by
          rw [seq_eq, decide_eq_false_iff_not]
          intro e
          have := ruleText_pos r
          rw [e] at this
          exact absurd this (by decide)
        rw [if_pos rfl, this]; rfl
    have hl := rulesL0 hN hs _ rfl N 0 (by omega) (by have := hs.2.1.1; omega)
    unfold m_s_DrawRuleOk
    simp only [c1, Option.bind_some, Bool.false_eq_true, if_false, e0', e1, rule_i hN r hs, rule_s hN r hs, ht, bne_self_eq_false, hq, count_i hN r hs.2.1.1]
    exact hl
  · have c1 : decide (1048576 < (b.length : Int)) = true := decide_eq_true (by omega)
    simp only [c1, Option.bind_some, if_true]
namespace fnRules
theorem law {x0 : List Int} (w0 : (WfL (WfI .u8)) x0) : m_l_FnRules 1099511627776 x0 = some true := law_FnRules (by omega) x0
end fnRules
end Go.Proofs.YteipbimepilcfaaGreatDoor
