/-
  The engine, part 8: loops, cuts, small helpers for the printed texts.
  Nothing here names a program.
-/
import Derived.Test.YtpajhchhkfnieaaEng7
namespace Go.Proofs.Ytpajhchhkfnieaa.Eng
open Go.RowKit (Below wrap64)
set_option linter.unusedVariables false
set_option linter.unusedSimpArgs false

variable {g : G} {k : List Item} {ops : Array Oper} {rest : List Oper} {l : Env} {w0 : World} {Φ : Hp} {L : List Ent} {w w' : World} {S : World → Prop}

theorem bind_some {α β : Type} {m : Option α} {f : α → Option β} {r : β} (h : m.bind f = some r) : ∃ x, m = some x ∧ f x = some r := by
  cases m with
  | none => cases h
  | some x => exact ⟨x, rfl, h⟩
theorem ite_t {α : Type} {c : Bool} {x y z : α} (h : (if c then x else y) = z) (hc : c = true) : x = z := by subst hc; simpa using h
theorem ite_f {α : Type} {c : Bool} {x y z : α} (h : (if c then x else y) = z) (hc : c = false) : y = z := by subst hc; simpa using h

/-- A loop, by its fuel. -/
theorem loop_ind {σ : Type} {c : Code} (env : σ → Env) (T : σ → World → Prop) (M : Nat → σ → Prop) (h0 : ∀ s, M 0 s → False)
    (hs : ∀ n, (∀ s, M n s → WT g (.code c :: .inLoop c :: k) (env s) (T s)) → ∀ s, M (n + 1) s → WT g (.code c :: .inLoop c :: k) (env s) (T s)) (n : Nat) (s : σ) (h : M n s) : WT g (.code c :: .inLoop c :: k) (env s) (T s) := by
  induction n generalizing s with
  | zero => exact (h0 s h).elim
  | succ n ih => exact hs n ih s h

/-- Two ways meet again. -/
theorem cut {σ : Type} {c : Code} (env : σ → Env) (T : σ → World → Prop) (M : σ → Prop) (hk : ∀ s, M s → WT g k (env s) (T s)) (hc : (∀ s, M s → WT g k (env s) (T s)) → WT g (.code c :: k) l S) : WT g (.code c :: k) l S := hc hk

theorem WL.cutN (n : Nat) (l2 : Env) (hk : WL g k ops (rest.drop n) l2 S) (hc : WL g k ops (rest.drop n) l2 S → WL g k ops rest l S) : WL g k ops rest l S := hc hk
theorem WQ.cutN (n : Nat) (l2 : Env) (hk : WQ g k ops (rest.drop n) l2 S) (hc : WQ g k ops (rest.drop n) l2 S → WQ g k ops rest l S) : WQ g k ops rest l S := hc hk
theorem WQ.keep {l' : Env} (hl : Sub l l') (h : WQ g k ops rest l' S) : WQ g k ops rest l S := fun a hf => h a (hf.mono hl.lk)
theorem WL.keep {l' : Env} (hl : Sub l l') (h : WL g k ops rest l' S) : WL g k ops rest l S := fun a w hf hw => h a w (hf.mono hl.lk) hw

theorem lk_same {l : Env} {d : Nat} {u v : Value} (h : lk l d = some u) (hv : u = v) : ∀ j x, lk ((d, v) :: l) j = some x → lk l j = some x := fun j x hj => by
  simp only [lk] at hj
  split at hj
  · rename_i e; subst e; simp only [Option.some.injEq] at hj; rw [h, hv, hj]
  · exact hj

theorem WL.split {d : Nat} {b : Bool} (h : lk l d = some (.bool b)) (h1 : b = true → WL g k ops rest ((d, .bool true) :: l) S) (h2 : b = false → WL g k ops rest ((d, .bool false) :: l) S) : WL g k ops rest l S := fun a w hf hw => by
  cases b
  · exact h2 rfl a w (hf.mono (lk_same h rfl)) hw
  · exact h1 rfl a w (hf.mono (lk_same h rfl)) hw
theorem WQ.split {d : Nat} {b : Bool} (h : lk l d = some (.bool b)) (h1 : b = true → WQ g k ops rest ((d, .bool true) :: l) S) (h2 : b = false → WQ g k ops rest ((d, .bool false) :: l) S) : WQ g k ops rest l S := fun a hf => by
  cases b
  · exact h2 rfl a (hf.mono (lk_same h rfl))
  · exact h1 rfl a (hf.mono (lk_same h rfl))

theorem WT.conv {S' : World → Prop} (hS : ∀ w, S w → S' w) (h : WT g k l S') : WT g k l S := fun a w hf hw => h a w hf (hS w hw)
theorem WL.conv {S' : World → Prop} (hS : ∀ w, S w → S' w) (h : WL g k ops rest l S') : WL g k ops rest l S := fun a w hf hw => h a w hf (hS w hw)
theorem WM.conv {kp : Nat → Bool} {fuel : Nat} {done : List Nat} {Sw S' : World → Prop} (hS : ∀ w, Sw w → S' w) (h : WM g k ops S kp fuel done l S') : WM g k ops S kp fuel done l Sw := fun a w hf hw => h a w hf (hS w hw)

theorem SP.left (A B : List Nat) : SP A (A ++ B) := ⟨B, List.Perm.refl _⟩
theorem SP.cons2 {A B C D : List Nat} (h : SP A B) (h' : SP C D) : SP (A ++ C) (B ++ D) := h.append h'

/-- Elements of the plain kinds. -/
def RI (kd : IntKind) (Φ : Hp) (F : List Nat) (cs : List Value) (x : Int) : Prop := cs = [.int kd x] ∧ F = []
def RB (Φ : Hp) (F : List Nat) (cs : List Value) (x : Bool) : Prop := cs = [.bool x] ∧ F = []
def RS (Φ : Hp) (F : List Nat) (cs : List Value) (x : ByteArray) : Prop := cs = [.string x] ∧ F = []
theorem RI.mono {kd : IntKind} : ∀ Φ Φ' F cs x, Hle Φ Φ' → RI kd Φ F cs x → RI kd Φ' F cs x := fun _ _ _ _ _ _ h => h
theorem RB.mono : ∀ Φ Φ' F cs x, Hle Φ Φ' → RB Φ F cs x → RB Φ' F cs x := fun _ _ _ _ _ _ h => h
theorem RS.mono : ∀ Φ Φ' F cs x, Hle Φ Φ' → RS Φ F cs x → RS Φ' F cs x := fun _ _ _ _ _ _ h => h

theorem RSl.nil {α : Type} (R : Hp → List Nat → List Value → α → Prop) (sz : Nat) (Φ : Hp) : RSl R sz Φ [] (.slice none 0 0) ([] : List α) :=
  ⟨⟨none, 0, rfl⟩, fun h => absurd rfl h, [], rfl, rfl, fun i x hi => by simp at hi⟩

theorem RSl.one {α : Type} {R : Hp → List Nat → List Value → α → Prop} {sz : Nat} {F : List Nat} {v : Value} {xs : List α} (h : RSl R sz Φ F v xs) : v.oneCell' = true := by
  obtain ⟨p, c, hp⟩ := h.form
  rw [hp]; rfl

theorem row_one {T sz n : Nat} {v : Value} {cells : List Value} (h : ∀ w, St w0 Φ L w → w.ownsRow 0 T sz v n cells) (hw : St w0 Φ L w) : v.oneCell' = true := by
  rcases (h w hw).2 with ⟨rfl, _⟩ | ⟨_, _, _, rfl, _⟩ <;> rfl

/-- Behind an append, one element more. -/
theorem app1 {α : Type} {xs ys : List α} {x : α} (h : app xs [x] = some ys) : ys = xs ++ [x] := (app_some h).2
theorem app1n {α : Type} {xs ys : List α} {x : α} (h : app xs [x] = some ys) : xs.length + 1 ≤ 4294967296 := (app_some h).1

theorem none_ne {α : Type} {r : α} (h : (none : Option α) = some r) : False := by cases h
theorem idx_lt {α : Type} {xs : List α} {i : Int} {x : α} (h : idx xs i = some x) : i.toNat < xs.length := by
  obtain ⟨h0, h1, _⟩ := idx_some h
  omega

def Bo (P : Program) (t : Nat) : Bool := match P.underlying t with | some .bool => true | _ => false
theorem equalIn_bool {P : Program} {t : Nat} {i j : Bool} (hu : P.underlying t = some .bool) (d : Nat) : (Op.equalIn (d + 1) t (.bool i) (.bool j)).run P w = .ok (i == j) w := by
  unfold Op.equalIn
  simp only [Sem.run_bind, run_underlying hu, Result.andThen_ok, Sem.run_pure]
theorem q_beq {P : Program} {x y : Operand} {t u : TypeId} {i j : Bool} (ht : Bo P t = true) (hx : opv l x = some (.bool i)) (hy : opv l y = some (.bool j)) : OpQ P (.binOp .eql t x y u) l S (.bool (i == j)) := fun n a w o ho hf hw => by
  have hu : P.underlying t = some .bool := by unfold Bo at ht; split at ht <;> simp_all
  unfold execOp; simp only [ho, hf.eval hx, hf.eval hy]
  have he : (Op.equal t (.bool i) (.bool j)).run P w = .ok (i == j) w := equalIn_bool hu 9999
  simp [eqGuard, binOp, Sem.run_bind, he]
theorem q_bne {P : Program} {x y : Operand} {t u : TypeId} {i j : Bool} (ht : Bo P t = true) (hx : opv l x = some (.bool i)) (hy : opv l y = some (.bool j)) : OpQ P (.binOp .neq t x y u) l S (.bool (i != j)) := fun n a w o ho hf hw => by
  have hu : P.underlying t = some .bool := by unfold Bo at ht; split at ht <;> simp_all
  unfold execOp; simp only [ho, hf.eval hx, hf.eval hy]
  have he : (Op.equal t (.bool i) (.bool j)).run P w = .ok (i == j) w := equalIn_bool hu 9999
  simp [eqGuard, binOp, Sem.run_bind, he]
  cases i <;> cases j <;> rfl
/-- One string is before the other. -/
def slt (x y : ByteArray) : Bool := Op.bytesLess x.toList y.toList
theorem q_slt {P : Program} {x y : Operand} {t u : TypeId} {i j : ByteArray} (hx : opv l x = some (.string i)) (hy : opv l y = some (.string j)) : OpQ P (.binOp .lss t x y u) l S (.bool (slt i j)) := fun n a w o ho hf hw => by
  unfold execOp; simp only [ho, hf.eval hx, hf.eval hy]
  simp [eqGuard, binOp, Op.stringOp, slt]
theorem q_pickB {P : Program} {c x y : Operand} {t u v : Bool} (hc : opv l c = some (.bool t)) (hx : opv l x = some (.bool u)) (hy : opv l y = some (.bool v)) : OpQ P (.pick c x y) l S (.bool (if t then u else v)) := fun n a w o ho hf hw => by
  unfold execOp; simp only [ho, hf.eval hc, hf.eval hx, hf.eval hy]; cases t <;> rfl
theorem q_lenRow {P : Program} {t e sz T n j : Nat} {args : Array Operand} {x : Operand} {v : Value} {cells : List Value} (ht : Sl P t e sz = true) (ha : args = #[x]) (hx : opv l x = some v) (hj : L[j]? = some (Ent.row T sz v n cells)) :
    OpQ P (.call ⟨.builtin .len, args, #[t]⟩) l (St w0 Φ L) (.int .i64 n) := fun m a w o ho hf hw => by
  have hrow : w.ownsRow 0 T sz v n cells := hw.own _ (List.mem_of_getElem? hj)
  have hv : ∃ p c, v = .slice p n c := by
    rcases hrow.2 with ⟨rfl, rfl⟩ | ⟨gb, cap, cur, rfl, _⟩
    · exact ⟨_, _, rfl⟩
    · exact ⟨_, _, rfl⟩
  obtain ⟨p, c, rfl⟩ := hv
  exact q_len (S := fun _ => True) ht ha hx m a w o ho hf trivial

theorem one_cells {v : Value} (h : v.oneCell' = true) : v.cells.toList = [v] := by cases v <;> first | rfl | (simp [Value.oneCell'] at h)
theorem one_cellsA {v : Value} (h : v.oneCell' = true) : v.cells = #[v] := by cases v <;> first | rfl | (simp [Value.oneCell'] at h)

/-- Each is an entry. -/
def AllIn (L : List Ent) : List Ent → Prop
  | [] => True
  | e :: r => e ∈ L ∧ AllIn L r
theorem AllIn.mem : ∀ {L' : List Ent}, AllIn L L' → ∀ e ∈ L', e ∈ L
  | [], _, e, he => by cases he
  | x :: r, h, e, he => by
    rcases List.mem_cons.1 he with rfl | he
    · exact h.1
    · exact AllIn.mem h.2 e he

theorem WL.rowOne {T sz n j : Nat} {v : Value} {cells : List Value} (hj : L[j]? = some (Ent.row T sz v n cells)) (h : v.oneCell' = true → WL g k ops rest l (St w0 Φ L)) : WL g k ops rest l (St w0 Φ L) := fun a w hf hw =>
  h (row_one (fun w hw => hw.own _ (List.mem_of_getElem? hj)) hw) a w hf hw
theorem WM.rowOne {kp : Nat → Bool} {fuel : Nat} {done : List Nat} {T sz n j : Nat} {v : Value} {cells : List Value} (hj : L[j]? = some (Ent.row T sz v n cells)) (h : v.oneCell' = true → WM g k ops S kp fuel done l (St w0 Φ L)) : WM g k ops S kp fuel done l (St w0 Φ L) := fun a w hf hw =>
  h (row_one (fun w hw => hw.own _ (List.mem_of_getElem? hj)) hw) a w hf hw

/-! The same operations in a region of an order of our own. -/
theorem WM.alloc {kp : Nat → Bool} {fuel : Nat} {done : List Nat} {o : Oper} {d : Nat} {T : TypeId} {z : Value} {C : Array Value} (i : Nat) (hi : ops[i]? = some o) (hr : Region.ready .any ops (lst ops done) = [i])
    (ho : o.op = .alloc T) (hg : o.guard = none) (hd : o.dst = some d) (hn : Nat.blt d g.n = true) (hz : Zr g.P T z) (hC : z.cells = C) (hk : kp i = true → ∀ b w, St w0 Φ (Ent.obj b (.cells C T (0, 0)) :: L) w → S w)
    (h : ∀ b, WM g k ops S kp fuel (i :: done) ((d, .pointer (some ⟨b, 0, none⟩)) :: l) (St w0 Φ (Ent.obj b (.cells C T (0, 0)) :: L))) : WM g k ops S kp (fuel + 1) done l (St w0 Φ L) := by
  refine WM.eff (v := fun b : Nat => .pointer (some ⟨b, 0, none⟩)) (S' := fun b => St w0 Φ (Ent.obj b (.cells C T (0, 0)) :: L)) i hi hr hk (fun a w hf hw => ⟨w.heap.size, w.alloc (.cells C T), ?_, ?_⟩) hg hd hn h
  · unfold execOp
    simp only [ho]
    unfold Zr at hz
    cases hti : g.P.info? T with
    | none => simp [hti] at hz
    | some ti =>
      have hzz : ti.zero = some z := by simpa [hti] using hz
      simp [Instr.alloc, zeroValue, typeInfo, hti, hzz, newVar, newRow, hC, Sem.run_bind]
  · exact hw.add (Chg.of_none (grownBy_alloc' _ _) _) (heap_alloc_new w _) (fun k hk => by simp [Ent.obj] at hk; omega) (by simp [Ent.obj])

theorem WM.store {kp : Nat → Bool} {fuel : Nat} {done : List Nat} {o : Oper} {t n : TypeId} {x y : Operand} {j b off : Nat} {T : TypeId} {C : Array Value} {v : Value} {vs : List Value} (i : Nat) (hi : ops[i]? = some o) (hr : Region.ready .any ops (lst ops done) = [i])
    (ho : o.op = .store t x y) (hg : o.guard = none) (hd : o.dst = none) (hz : Sz g.P t n = true)
    (hx : opv l x = some (.pointer (some ⟨b, off, none⟩))) (hy : opv l y = some v) (hj : L[j]? = some (Ent.obj b (.cells C T (0, 0)))) (hvs : v.cells.toList = vs) (hlen : vs.length = n) (hoff : Nat.ble (off + n) C.size = true) (h1 : One vs) {C' : List Value} (hC' : put C.toList off vs = C')
    (hk : kp i = true → ∀ w, St w0 Φ (L.set j (Ent.obj b (.cells C'.toArray T (0, 0)))) w → S w)
    (h : WM g k ops S kp fuel (i :: done) l (St w0 Φ (L.set j (Ent.obj b (.cells C'.toArray T (0, 0)))))) : WM g k ops S kp (fuel + 1) done l (St w0 Φ L) := by
  subst hC'; rw [← setMany_put] at h hk
  subst hvs
  refine WM.effU (α := Unit) (S' := fun _ => St w0 Φ (L.set j (Ent.obj b (.cells (setMany C off v.cells.toList) T (0, 0))))) i hi hr (fun hc _ w hw => hk hc w hw) (fun a w hf hw => ?_) hg hd (fun _ => h)
  have hb : w.heap[b]? = some (.cells C T (0, 0)) := hw.own _ (List.mem_of_getElem? hj)
  obtain ⟨w', h2, h3, h4⟩ := run_storeVarMany (P := g.P) (o := off) hz (by simpa using hlen) hb (by simpa using hoff) h1
  refine ⟨(), w', ?_, ?_⟩
  · unfold execOp
    simp only [ho, hf.eval hx, hf.eval hy]
    simp [Instr.storeAt, Instr.sureAddr, Sem.run_bind, h2]
  · exact hw.upd hj rfl (Chg.of_some h4) h3 (fun k hk => .inl hk) (by simp [Ent.obj])

end Go.Proofs.Ytpajhchhkfnieaa.Eng
