/-
  The engine, part 4: a region that draws its order and in which some operations change the world; rows that are made, filled and appended to.
  Nothing here names a program.
-/
import Derived.Test.YtpajhchhkfnieaaEng3
import Derived.OrdersHeld
import Derived.Still
namespace Go.Proofs.Ytpajhchhkfnieaa.Eng
open Go.RowKit (Below wrap64)
set_option linter.unusedVariables false
set_option linter.unusedSimpArgs false

section mixed
variable {P : Program} {ops : Array Oper} {Q : Exit → Act → World → Prop} {md : Region.Mode} {S : World → Prop} {kp : Nat → Bool}

/-- Whatever order is picked from here on, and S holds behind each operation that is marked. -/
def wpAnyK (P : Program) (md : Region.Mode) (ops : Array Oper) (Q : Exit → Act → World → Prop) (S : World → Prop) (kp : Nat → Bool) : Nat → Array Bool → Act → World → Prop
  | 0, listed, a, w => Region.ready md ops listed = [] ∧ Q .normal a w
  | fuel + 1, listed, a, w =>
    (Region.ready md ops listed = [] → Q .normal a w) ∧
    ∀ i ∈ Region.ready md ops listed, wpOp P ops Q i (fun a' w' => (kp i = true → S w') ∧ wpAnyK P md ops Q S kp fuel (listed.setIfInBounds i true) a' w') a w

theorem wpAny_of_K : ∀ (fuel : Nat) (listed : Array Bool) (a : Act) (w : World), wpAnyK P md ops Q S kp fuel listed a w → wpAny P md ops Q fuel listed a w
  | 0, _, _, _, h => h
  | fuel + 1, _, _, _, h => ⟨h.1, fun i hi => wpOp_mono (fun a' w' h' => wpAny_of_K fuel _ a' w' h'.2) (h.2 i hi)⟩

theorem wpAnyK_first {i : Nat} {oi : Oper} {v : Value} (hi : ops[i]? = some oi) (hsel : ∀ (j : Nat) (o : Oper) cs b, ops[j]? = some o → o.op ≠ .select cs b)
    (hQ : ∀ c a w, Q (.panic c) (a.put oi.dst v) w → Q (.panic c) a w) :
    ∀ (fuel : Nat) (listed : Array Bool) (a : Act) (w : World),
      (∀ j oj, ops[j]? = some oj → j ≠ i → listed.getD j true = false → (∀ e ∈ oj.after, Region.binds md e = true → e.on ≠ i) → oi.apart ops oj = true ∧ kp j = true) →
      i ∈ Region.ready md ops listed → YieldsIf P ops S oi v a → S w →
      wpAnyK P md ops Q S kp fuel (listed.setIfInBounds i true) (a.put oi.dst v) w → wpAnyK P md ops Q S kp (fuel + 1) listed a w := by
  intro fuel
  induction fuel with
  | zero =>
    intro listed a w _ hr hy hS H
    refine ⟨fun h => (by rw [h] at hr; cases hr), fun j hj => ?_⟩
    by_cases hji : j = i
    · subst hji; exact hy.wpOp hi hS ⟨fun _ => hS, H⟩
    · have := ready_mono hj hji
      rw [H.1] at this
      cases this
  | succ fuel ih =>
    intro listed a w hfree hr hy hS H
    refine ⟨fun h => (by rw [h] at hr; cases hr), fun j hj => ?_⟩
    by_cases hji : j = i
    · subst hji; exact hy.wpOp hi hS ⟨fun _ => hS, H⟩
    · have h1 := H.2 j (ready_mono hj hji)
      obtain ⟨hjun, oj, hoj, hall⟩ := mem_ready.1 hj
      have hnot : ∀ e ∈ oj.after, Region.binds md e = true → e.on ≠ i := fun e he hb heq => by
        have h1 := hall e he hb
        have h0 := (mem_ready.1 hr).1
        rw [heq] at h1
        rcases Nat.lt_or_ge i listed.size with h' | h'
        · simp [h'] at h0 h1; rw [h0] at h1; cases h1
        · simp [Array.getElem?_eq_none h'] at h1
      obtain ⟨hap, hkj⟩ := hfree j oj hoj hji hjun hnot
      have h2 := wpOp_putIf hoj hap (fun cs b => hsel i oi cs b hi) (fun cs b => hsel j oj cs b hoj) hQ hy h1
      have hfree' : ∀ k ok, ops[k]? = some ok → k ≠ i → (listed.setIfInBounds j true).getD k true = false →
          (∀ e ∈ ok.after, Region.binds md e = true → e.on ≠ i) → oi.apart ops ok = true ∧ kp k = true := fun k ok hk hki hun hno => by
        refine hfree k ok hk hki ?_ hno
        by_cases hjk : j = k
        · subst hjk; exact hjun
        · rw [getD_set_ne true hjk] at hun; exact hun
      refine wpOp_mono (fun a' w' h3 => ⟨h3.2.1, ih (listed.setIfInBounds j true) a' w' hfree' (ready_mono hr (Ne.symm hji)) h3.1 (h3.2.1 hkj) ?_⟩) h2
      rw [Array.setIfInBounds_comm _ _ hji]
      exact h3.2.2
end mixed

variable {g : G} {k : List Item} {ops : Array Oper} {rest : List Oper} {l : Env} {w0 : World} {Φ : Hp} {L : List Ent} {w w' : World} {S : World → Prop}

/-- Which operations have been carried out. -/
def lst (ops : Array Oper) (done : List Nat) : Array Bool := done.foldr (fun i a => a.setIfInBounds i true) (Array.replicate ops.size false)

/-- The walk of a region in an order of our own. -/
def WM (g : G) (k : List Item) (ops : Array Oper) (S : World → Prop) (kp : Nat → Bool) (fuel : Nat) (done : List Nat) (l : Env) (Sw : World → Prop) : Prop :=
  ∀ a w, Fr g.n l a → Sw w → wpAnyK g.P .any ops (QK (At g k)) S kp fuel (lst ops done) a w

theorem WT.mix {id : Nat} {os : List Oper} (S : World → Prop) (kp : Nat → Bool) {Sw : World → Prop} (hm : g.P.follows .mixedOrders = true) (hS : ∀ w, Sw w → Sw w.drew) (h : WM g k os.toArray S kp os.length [] l Sw) :
    WT g (.code (.region id os.toArray true) :: k) l Sw := fun a w hf hw =>
  At.of_wp (wp_region_any hm (by
    have := wpAny_of_K _ _ _ _ (h a _ hf (hS w hw))
    simpa [lst] using this))

def qB (ops : Array Oper) (kp : Nat → Bool) (done : List Nat) (i : Nat) : Bool :=
  Region.noSelect ops && (Region.ready .any ops (lst ops done)).contains i &&
  (match ops[i]? with
   | some oi => (List.range ops.size).all fun j => j == i || (lst ops done).getD j true || (match ops[j]? with | some oj => oj.after.any (fun e => Region.binds .any e && e.on == i) || (oi.apart ops oj && kp j) | none => true)
   | none => false)

theorem qB_free {kp : Nat → Bool} {done : List Nat} {i : Nat} {oi : Oper} (hi : ops[i]? = some oi) (h : qB ops kp done i = true) :
    Region.noSelect ops = true ∧ i ∈ Region.ready .any ops (lst ops done) ∧
    (∀ j oj, ops[j]? = some oj → j ≠ i → (lst ops done).getD j true = false → (∀ e ∈ oj.after, Region.binds .any e = true → e.on ≠ i) → oi.apart ops oj = true ∧ kp j = true) := by
  unfold qB at h
  simp only [hi, Bool.and_eq_true] at h
  obtain ⟨⟨h1, h2⟩, h3⟩ := h
  refine ⟨h1, by simpa using h2, fun j oj hj hne hun hno => ?_⟩
  rw [List.all_eq_true] at h3
  have hlt : j < ops.size := (Array.getElem?_eq_some_iff.1 hj).1
  have h4 := h3 j (List.mem_range.2 hlt)
  have hne' : (j == i) = false := by simpa using hne
  simp only [hne', hun, Bool.false_or, hj, Bool.or_eq_true] at h4
  rcases h4 with h4 | h4
  · rw [Array.any_eq_true] at h4
    obtain ⟨x, hx, hb⟩ := h4
    simp only [Bool.and_eq_true, beq_iff_eq] at hb
    exact absurd hb.2 (hno _ (Array.getElem_mem hx) hb.1)
  · simpa using h4

theorem lst_cons (done : List Nat) (i : Nat) : (lst ops done).setIfInBounds i true = lst ops (i :: done) := rfl

/-- A quiet operation, taken first. -/
theorem WM.q {kp : Nat → Bool} {fuel : Nat} {done : List Nat} {Sw : World → Prop} {o : Oper} {d : Nat} {v : Value} (i : Nat) (hi : ops[i]? = some o) (hB : qB ops kp done i = true) (hS : ∀ w, Sw w → S w)
    (hop : OpQ g.P o.op l S v) (hg : o.guard = none) (hd : o.dst = some d) (hn : Nat.blt d g.n = true)
    (h : WM g k ops S kp fuel (i :: done) ((d, v) :: l) Sw) : WM g k ops S kp (fuel + 1) done l Sw := fun a w hf hw => by
  obtain ⟨h1, h2, h3⟩ := qB_free hi hB
  refine wpAnyK_first hi (Region.noSelect_spec h1) (fun c a w h => h) fuel _ a w h3 h2 (v := v) (.inl ⟨by simp [Region.wanted, hg], fun w hw => hop g.n a w o rfl hf hw⟩) (hS w hw) ?_
  rw [hd, lst_cons]
  exact h _ w (hf.put hn v) hw

/-- An operation that must come now. -/
theorem WM.eff {kp : Nat → Bool} {fuel : Nat} {done : List Nat} {Sw : World → Prop} {o : Oper} {d : Nat} {α : Type} {v : α → Value} {S' : α → World → Prop} (i : Nat) (hi : ops[i]? = some o) (hr : Region.ready .any ops (lst ops done) = [i])
    (hkeep : kp i = true → ∀ x w, S' x w → S w)
    (hop : ∀ (a : Act) (w : World), Fr g.n l a → Sw w → ∃ (x : α) (w' : World), (execOp a.eval o).run g.P w = .ok (.value (v x)) w' ∧ S' x w') (hg : o.guard = none) (hd : o.dst = some d) (hn : Nat.blt d g.n = true)
    (h : ∀ x, WM g k ops S kp fuel (i :: done) ((d, v x) :: l) (S' x)) : WM g k ops S kp (fuel + 1) done l Sw := fun a w hf hw => by
  refine ⟨fun h0 => (by rw [hr] at h0; cases h0), fun j hj => ?_⟩
  rw [hr] at hj
  obtain rfl : j = i := by simpa using hj
  obtain ⟨x, w', hrun, hs⟩ := hop a w hf hw
  unfold wpOp
  simp only [hi, Region.wanted, hg, if_true]
  refine .inl ?_
  unfold Oper.wp
  rw [hrun, Oper.upon_value, hd]
  exact ⟨fun hk => hkeep hk x w' hs, by rw [lst_cons]; exact h x _ _ (hf.put hn (v x)) hs⟩

theorem WM.effU {kp : Nat → Bool} {fuel : Nat} {done : List Nat} {Sw : World → Prop} {o : Oper} {α : Type} {S' : α → World → Prop} (i : Nat) (hi : ops[i]? = some o) (hr : Region.ready .any ops (lst ops done) = [i])
    (hkeep : kp i = true → ∀ x w, S' x w → S w)
    (hop : ∀ (a : Act) (w : World), Fr g.n l a → Sw w → ∃ (x : α) (w' : World), (execOp a.eval o).run g.P w = .ok .skip w' ∧ S' x w') (hg : o.guard = none) (hd : o.dst = none)
    (h : ∀ x, WM g k ops S kp fuel (i :: done) l (S' x)) : WM g k ops S kp (fuel + 1) done l Sw := fun a w hf hw => by
  refine ⟨fun h0 => (by rw [hr] at h0; cases h0), fun j hj => ?_⟩
  rw [hr] at hj
  obtain rfl : j = i := by simpa using hj
  obtain ⟨x, w', hrun, hs⟩ := hop a w hf hw
  unfold wpOp
  simp only [hi, Region.wanted, hg, if_true]
  refine .inl ?_
  unfold Oper.wp
  rw [hrun, Oper.upon_skip, hd]
  exact ⟨fun hk => hkeep hk x w' hs, by rw [lst_cons]; exact h x _ _ (hf.put_none undef) hs⟩

theorem WM.call {kp : Nat → Bool} {fuel : Nat} {done : List Nat} {Sw : World → Prop} {o : Oper} {d : Nat} {α : Type} {v : α → Value} {S' : α → World → Prop} (i : Nat) (hi : ops[i]? = some o) (hr : Region.ready .any ops (lst ops done) = [i])
    (hkeep : kp i = true → ∀ x w, S' x w → S w) (hop : OpC g.P o.op l Sw v S') (hg : o.guard = none) (hd : o.dst = some d) (hn : Nat.blt d g.n = true)
    (h : ∀ x, WM g k ops S kp fuel (i :: done) ((d, v x) :: l) (S' x)) : WM g k ops S kp (fuel + 1) done l Sw := fun a w hf hw => by
  refine ⟨fun h0 => (by rw [hr] at h0; cases h0), fun j hj => ?_⟩
  rw [hr] at hj
  obtain rfl : j = i := by simpa using hj
  obtain ⟨f, args, hrun, hc⟩ := hop g.n a w o rfl hf hw
  unfold wpOp
  simp only [hi, Region.wanted, hg, if_true]
  refine .inl ?_
  unfold Oper.wp
  rw [hrun, Oper.upon_enter, hd]
  refine hc.mono ?_
  rintro e w' ⟨x, rfl, hs⟩
  exact ⟨fun hk => hkeep hk x w' hs, by rw [lst_cons]; exact h x _ _ (hf.put hn (v x)) hs⟩

theorem WM.nil {kp : Nat → Bool} {fuel : Nat} {done : List Nat} {Sw : World → Prop} (hr : Region.ready .any ops (lst ops done) = []) (h : WT g k l Sw) : WM g k ops S kp fuel done l Sw := fun a w hf hw => by
  cases fuel with
  | zero => exact ⟨hr, h a w hf hw⟩
  | succ n => exact ⟨fun _ => h a w hf hw, fun i hi => (by rw [hr] at hi; cases hi)⟩

theorem WM.pull {kp : Nat → Bool} {fuel : Nat} {done : List Nat} {p : Prop} {Sw : World → Prop} (h : p → WM g k ops S kp fuel done l Sw) : WM g k ops S kp fuel done l (fun w => p ∧ Sw w) := fun a w hf hw => h hw.1 a w hf hw.2

/-- What is known of the world while a region is under way: the frozen heap, some entries. -/
def Kn (Φ : Hp) (L : List Ent) (w : World) : Prop := In Φ w ∧ ∀ e ∈ L, e.holds w

theorem Kn.of_St {Φ' : Hp} {L' : List Ent} (hle : Hle Φ' Φ) (hs : ∀ e ∈ L', e ∈ L) (h : St w0 Φ L w) : Kn Φ' L' w := ⟨fun k o hk => h.fro k o (hle k o hk), fun e he => h.own e (hs e he)⟩

theorem Kn.rgL (h : Kn Φ L w) {i b : Nat} {C : Array Value} {T : Nat} {fz : Nat × Nat} (hi : L[i]? = some (Ent.obj b (.cells C T fz))) (o n : Nat) (cs : List Value) (hc : (C.toList.drop o).take n = cs) : w.rangeAt b o cs := by
  have hh : w.heap[b]? = some (.cells C T fz) := h.2 _ (List.mem_of_getElem? hi)
  intro j v hj
  subst hc
  rw [List.getElem?_take] at hj
  split at hj
  · rw [List.getElem?_drop] at hj
    simp only [World.cell?, hh]
    simpa using hj
  · cases hj

end Go.Proofs.Ytpajhchhkfnieaa.Eng
