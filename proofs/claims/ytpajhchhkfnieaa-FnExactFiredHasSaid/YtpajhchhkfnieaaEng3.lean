/-
  The engine, part 3: operations that change the world (new blocks, stores, make, append) and calls.
  Nothing here names a program.
-/
import Derived.Test.YtpajhchhkfnieaaEng2
import Derived.ArgAppend
import Derived.Laws.CopyRow
namespace Go.Proofs.Ytpajhchhkfnieaa.Eng
open Go.RowKit (Below wrap64)
set_option linter.unusedVariables false
set_option linter.unusedSimpArgs false

variable {g : G} {k : List Item} {ops : Array Oper} {rest : List Oper} {l : Env} {w0 : World} {Φ : Hp} {L : List Ent} {w w' : World}

theorem grownBy_alloc' (w : World) (o : Obj) : w.grownBy (w.alloc o) none := World.grownBy_alloc w o none

/-! ### New blocks -/
theorem WL.box {o : Oper} {d : Nat} {T : TypeId} {x : Operand} {v : Value} {C : Array Value} (ho : o.op = .box T x) (hg : o.guard = none) (hd : o.dst = some d) (hn : Nat.blt d g.n = true) (hx : opv l x = some v) (hC : v.cells = C)
    (h : ∀ b, WL g k ops rest ((d, .pointer (some ⟨b, 0, none⟩)) :: l) (St w0 Φ (Ent.obj b (.cells C T (0, 0)) :: L))) : WL g k ops (o :: rest) l (St w0 Φ L) := by
  refine WL.eff (v := fun b : Nat => .pointer (some ⟨b, 0, none⟩)) (S' := fun b => St w0 Φ (Ent.obj b (.cells C T (0, 0)) :: L)) (fun a w hf hw => ⟨w.heap.size, w.alloc (.cells C T), ?_, ?_⟩) hg hd hn h
  · unfold execOp
    simp only [ho, hf.eval hx]
    simp [Instr.box, newVar, newRow, hC]
  · exact hw.add (Chg.of_none (grownBy_alloc' _ _) _) (heap_alloc_new w _) (fun k hk => by simp [Ent.obj] at hk; omega) (by simp [Ent.obj])

def Zr (P : Program) (t : Nat) (z : Value) : Prop := (P.info? t).map (·.zero) = some (some z)

theorem WL.alloc {o : Oper} {d : Nat} {T : TypeId} {z : Value} {C : Array Value} (ho : o.op = .alloc T) (hg : o.guard = none) (hd : o.dst = some d) (hn : Nat.blt d g.n = true) (hz : Zr g.P T z) (hC : z.cells = C)
    (h : ∀ b, WL g k ops rest ((d, .pointer (some ⟨b, 0, none⟩)) :: l) (St w0 Φ (Ent.obj b (.cells C T (0, 0)) :: L))) : WL g k ops (o :: rest) l (St w0 Φ L) := by
  refine WL.eff (v := fun b : Nat => .pointer (some ⟨b, 0, none⟩)) (S' := fun b => St w0 Φ (Ent.obj b (.cells C T (0, 0)) :: L)) (fun a w hf hw => ⟨w.heap.size, w.alloc (.cells C T), ?_, ?_⟩) hg hd hn h
  · unfold execOp
    simp only [ho]
    unfold Zr at hz
    cases hti : g.P.info? T with
    | none => simp [hti] at hz
    | some ti =>
      have hzz : ti.zero = some z := by simpa [hti] using hz
      simp [Instr.alloc, zeroValue, typeInfo, hti, hzz, newVar, newRow, hC, Sem.run_bind]
  · exact hw.add (Chg.of_none (grownBy_alloc' _ _) _) (heap_alloc_new w _) (fun k hk => by simp [Ent.obj] at hk; omega) (by simp [Ent.obj])

/-! ### Stores into a block of the function's own -/
def setMany (C : Array Value) (o : Nat) : List Value → Array Value
  | [] => C
  | v :: vs => setMany (C.setIfInBounds o v) (o + 1) vs

/-- The same on lists: it reduces fast. -/
def put (C : List Value) (o : Nat) : List Value → List Value
  | [] => C
  | v :: vs => put (C.set o v) (o + 1) vs
theorem setMany_put : ∀ (vs : List Value) (C : Array Value) (o : Nat), setMany C o vs = (put C.toList o vs).toArray
  | [], C, o => rfl
  | v :: vs, C, o => by rw [setMany, put, setMany_put vs]; simp

theorem setMany_size (vs : List Value) : ∀ (C : Array Value) (o : Nat), (setMany C o vs).size = C.size := by
  induction vs with
  | nil => intro C o; rfl
  | cons v vs ih => intro C o; simp [setMany, ih]

/-- Each is one cell. -/
def One : List Value → Prop
  | [] => True
  | v :: vs => v.oneCell' = true ∧ One vs

theorem One.all : ∀ {vs : List Value}, One vs → ∀ v ∈ vs, v.oneCell' = true
  | [], _, v, h => by cases h
  | u :: us, h, v, hv => by
    rcases List.mem_cons.1 hv with rfl | hv
    · exact h.1
    · exact One.all h.2 v hv

theorem run_storeMany {P : Program} {b : Nat} {T : TypeId} : ∀ (vs : List Value) (i o : Nat) (C : Array Value) (w : World), w.heap[b]? = some (.cells C T (0, 0)) → o + i + vs.length ≤ C.size → (∀ v ∈ vs, v.oneCell' = true) →
    ∃ w', (storeCells ⟨b, o, none⟩ vs i).run P w = .ok () w' ∧ w'.heap[b]? = some (.cells (setMany C (o + i) vs) T (0, 0)) ∧ w.grownBy w' (some b)
  | [], i, o, C, w, hb, hlen, h1 => ⟨w, by simp [storeCells], hb, rfl, rfl, rfl, Nat.le_refl _, fun _ _ _ => rfl⟩
  | v :: vs, i, o, C, w, hb, hlen, h1 => by
    have hcell : w.cell? ⟨b, o + i, none⟩ = some (C[o + i]'(by simp at hlen; omega)) := by
      simp only [World.cell?, hb]
      simp [Array.getElem?_eq_getElem (show o + i < C.size by simp at hlen; omega)]
    have hfz : w.frozen? ⟨b, o + i, none⟩ = false := by simp [World.frozen?, hb]
    have hst : (store (Addr.add ⟨b, o, none⟩ i) v).run P w = .ok () (w.setCell ⟨b, o + i, none⟩ v) := by
      rw [Addr.add_mid, run_store P w _ v _ (h1 v (by simp))]
      simp [hcell, hfz]
    have hb' := heap_setCell_same w b (o + i) C T v hb
    obtain ⟨w', h2, h3, h4⟩ := run_storeMany (P := P) vs (i + 1) o (C.setIfInBounds (o + i) v) (w.setCell ⟨b, o + i, none⟩ v) hb' (by simp at hlen ⊢; omega) (fun u hu => h1 u (by simp [hu]))
    refine ⟨w', ?_, ?_, ?_⟩
    · simp only [storeCells, Sem.run_bind, hst, Result.andThen_ok, h2]
    · rw [h3]; rfl
    · refine ⟨h4.os, h4.tape, h4.output, by have := h4.size; simpa using this, fun k hk hkb => ?_⟩
      rw [h4.block k (by simpa using hk) hkb]
      exact heap_setCell_other w _ k v (fun e => hkb (by simp [e]))

theorem run_storeVarMany {P : Program} {b o n : Nat} {t T : TypeId} {v : Value} {C : Array Value} (hz : Sz P t n = true) (hn : v.cells.size = n) (hb : w.heap[b]? = some (.cells C T (0, 0))) (hlen : o + n ≤ C.size) (h1 : One v.cells.toList) :
    ∃ w', (storeVar t ⟨b, o, none⟩ v).run P w = .ok () w' ∧ w'.heap[b]? = some (.cells (setMany C o v.cells.toList) T (0, 0)) ∧ w.grownBy w' (some b) := by
  unfold Sz at hz
  cases hti : P.info? t with
  | none => simp [hti] at hz
  | some ti =>
    have hs : ti.size = n := by simpa [hti] using hz
    obtain ⟨w', h2, h3, h4⟩ := run_storeMany (P := P) v.cells.toList 0 o C w hb (by simp [hn]; omega) h1.all
    refine ⟨w', ?_, by simpa using h3, h4⟩
    simp [storeVar, sizeOf, typeInfo, hti, hs, hn, h2]

theorem WL.store {o : Oper} {t n : TypeId} {x y : Operand} {i b off : Nat} {T : TypeId} {C : Array Value} {v : Value} {vs : List Value} (ho : o.op = .store t x y) (hg : o.guard = none) (hd : o.dst = none) (hz : Sz g.P t n = true)
    (hx : opv l x = some (.pointer (some ⟨b, off, none⟩))) (hy : opv l y = some v) (hi : L[i]? = some (Ent.obj b (.cells C T (0, 0)))) (hvs : v.cells.toList = vs) (hlen : vs.length = n) (hoff : Nat.ble (off + n) C.size = true) (h1 : One vs) {C' : List Value} (hC' : put C.toList off vs = C')
    (h : WL g k ops rest l (St w0 Φ (L.set i (Ent.obj b (.cells C'.toArray T (0, 0)))))) : WL g k ops (o :: rest) l (St w0 Φ L) := by
  subst hC'; rw [← setMany_put] at h
  subst hvs
  refine WL.effU (α := Unit) (S' := fun _ => St w0 Φ (L.set i (Ent.obj b (.cells (setMany C off v.cells.toList) T (0, 0))))) (fun a w hf hw => ?_) hg hd (fun _ => h)
  have hb : w.heap[b]? = some (.cells C T (0, 0)) := hw.own _ (List.mem_of_getElem? hi)
  obtain ⟨w', h2, h3, h4⟩ := run_storeVarMany (P := g.P) (o := off) hz (by simpa using hlen) hb (by simpa using hoff) h1
  refine ⟨(), w', ?_, ?_⟩
  · unfold execOp
    simp only [ho, hf.eval hx, hf.eval hy]
    simp [Instr.storeAt, Instr.sureAddr, Sem.run_bind, h2]
  · exact hw.upd hi rfl (Chg.of_some h4) h3 (fun k hk => .inl hk) (by simp [Ent.obj])

/-! ### Calls -/
def opvs (l : Env) : List Operand → Option (List Value)
  | [] => some []
  | x :: xs => match opv l x, opvs l xs with
    | some v, some vs => some (v :: vs)
    | _, _ => none

theorem opvs_map {n : Nat} {a : Act} (hf : Fr n l a) : ∀ {xs : List Operand} {vs : List Value}, opvs l xs = some vs → xs.map a.eval = vs
  | [], vs, h => by simp [opvs] at h; simp [h]
  | x :: xs, vs, h => by
    simp only [opvs] at h
    split at h
    · rename_i v vs' h1 h2
      simp only [Option.some.injEq] at h
      subst h
      simp [hf.eval h1, opvs_map hf h2]
    · cases h

theorem run_callFunc {P : Program} {f : Nat} {args : Array Value} (hF : Fun P f = true) (w : World) : (callFunc f args).run P w = .ok (.enter f args) w := by
  unfold Fun at hF
  unfold callFunc
  split at hF
  · rename_i fn hfn
    simp only [Bool.and_eq_true, Bool.not_eq_true', Option.isSome_iff_exists] at hF
    obtain ⟨⟨c, hc⟩, hname⟩ := hF
    simp only [Sem.run_bind, run_program, Result.andThen_ok, hfn, hname, hc]
    rfl
  · cases hF

theorem c_call {P : Program} {f : Nat} {xs : List Operand} {ts : Array TypeId} {S : World → Prop} {α : Type} {v : α → Value} {S' : α → World → Prop} {vs : List Value} (hF : Fun P f = true) (ha : opvs l xs = some vs)
    (h : ∀ w, S w → Calls P f vs.toArray w fun e w' => ∃ x, e = .returned (v x) ∧ S' x w') : OpC P (.call ⟨.value (.func f), xs.toArray, ts⟩) l S v S' := fun n a w o ho hf hw => by
  refine ⟨f, vs.toArray, ?_, h w hw⟩
  unfold execOp
  simp only [ho, resolve]
  have : xs.toArray.map a.eval = vs.toArray := by simp [opvs_map hf ha]
  simp only [this]
  simp [Act.eval, Deferred.ofValue, invoke, Sem.run_bind, run_callFunc hF]

/-- A contract of a function that only computes: what it hands back, and nothing that was there has turned. -/
def Post (v : Value) (w : World) : Ending → World → Prop := fun e w' => e = .returned v ∧ Below w.heap.size w w'

theorem Calls.keep {P : Program} {f : Nat} {args : Array Value} {v : Value} (hS : St w0 Φ L w) (h : Calls P f args w (Post v w)) : Calls P f args w fun e w' => ∃ _ : Unit, e = .returned v ∧ St w0 Φ L w' :=
  h.mono fun e w' ⟨h1, h2⟩ => ⟨(), h1, hS.call h2⟩

theorem c_pure {P : Program} {f : Nat} {xs : List Operand} {ts : Array TypeId} {v : Value} {vs : List Value} (hF : Fun P f = true) (ha : opvs l xs = some vs)
    (h : ∀ w, St w0 Φ L w → Calls P f vs.toArray w (Post v w)) : OpC P (.call ⟨.value (.func f), xs.toArray, ts⟩) l (St w0 Φ L) (fun _ : Unit => v) (fun _ => St w0 Φ L) :=
  c_call hF ha fun w hw => Calls.keep hw (h w hw)

/-- The function's own post at its end. -/
theorem post_of_St {v : Value} (h : St w0 Φ L w) : Post v w0 (.returned v) w := ⟨rfl, h.bel⟩

/-- A contract of a function that makes new data: v, which reads as Q says in a greater frozen heap. -/
structure New (Φ : Hp) (w : World) (Q : Hp → Value → Prop) (v : Value) (Φ' : Hp) (w' : World) : Prop where
  bel : Below w.heap.size w w'
  le : Hle Φ Φ'
  inn : In Φ' w'
  old : ∀ k, k < w.heap.size → Φ' k = Φ k
  reads : Q Φ' v

def PostN (Φ : Hp) (w : World) (Q : Hp → Value → Prop) : Ending → World → Prop := fun e w' => ∃ v Φ', e = .returned v ∧ New Φ w Q v Φ' w'

theorem Calls.keepN {P : Program} {f : Nat} {args : Array Value} {Q : Hp → Value → Prop} (hS : St w0 Φ L w) (h : Calls P f args w (PostN Φ w Q)) :
    Calls P f args w fun e w' => ∃ x : Value × Hp, e = .returned x.1 ∧ (Hle Φ x.2 ∧ Q x.2 x.1) ∧ St w0 x.2 L w' :=
  h.mono fun e w' ⟨v, Φ', h1, h2⟩ => ⟨(v, Φ'), h1, ⟨h2.le, h2.reads⟩, by
    have h3 := hS.call h2.bel
    exact h3.more (n := w.heap.size) (fun e he k hk => e.lt w (hS.own e he) k hk) h2.inn h2.old⟩

theorem c_new {P : Program} {f : Nat} {xs : List Operand} {ts : Array TypeId} {Q : Hp → Value → Prop} {vs : List Value} (hF : Fun P f = true) (ha : opvs l xs = some vs)
    (h : ∀ w, St w0 Φ L w → Calls P f vs.toArray w (PostN Φ w Q)) :
    OpC P (.call ⟨.value (.func f), xs.toArray, ts⟩) l (St w0 Φ L) (fun x : Value × Hp => x.1) (fun x w' => (Hle Φ x.2 ∧ Q x.2 x.1) ∧ St w0 x.2 L w') :=
  c_call hF ha fun w hw => Calls.keepN hw (h w hw)

theorem WL.pull {p : Prop} {S : World → Prop} (h : p → WL g k ops rest l S) : WL g k ops rest l (fun w => p ∧ S w) := fun a w hf hw => h hw.1 a w hf hw.2
theorem WT.pull {p : Prop} {S : World → Prop} (h : p → WT g k l S) : WT g k l (fun w => p ∧ S w) := fun a w hf hw => h hw.1 a w hf hw.2

theorem WL.callN {o : Oper} {d : Nat} {f : Nat} {xs : List Operand} {ts : Array TypeId} {Q : Hp → Value → Prop} {vs : List Value} (ho : o.op = .call ⟨.value (.func f), xs.toArray, ts⟩) (hg : o.guard = none) (hd : o.dst = some d) (hn : Nat.blt d g.n = true)
    (hF : Fun g.P f = true) (ha : opvs l xs = some vs) (hc : ∀ w, St w0 Φ L w → Calls g.P f vs.toArray w (PostN Φ w Q))
    (h : ∀ (v : Value) (Φ' : Hp), Hle Φ Φ' → Q Φ' v → WL g k ops rest ((d, v) :: l) (St w0 Φ' L)) : WL g k ops (o :: rest) l (St w0 Φ L) := by
  refine WL.call (by rw [ho]; exact c_new hF ha hc) hg hd hn fun x => ?_
  exact WL.pull fun ⟨h1, h2⟩ => h x.1 x.2 h1 h2

/-! ### Rows of the function's own: slices that it makes and fills -/
/-- The cells read as xs, element by element. -/
structure RC {α : Type} (R : Hp → List Nat → List Value → α → Prop) (sz : Nat) (Φ : Hp) (Fs : List (List Nat)) (cells : List Value) (xs : List α) : Prop where
  len : cells.length = xs.length * sz
  flen : Fs.length = xs.length
  el : ∀ i x, xs[i]? = some x → R Φ (Fs.getD i []) ((cells.drop (i * sz)).take sz) x

theorem RC.nil {α : Type} (R : Hp → List Nat → List Value → α → Prop) (sz : Nat) (Φ : Hp) : RC R sz Φ [] [] ([] : List α) := ⟨by simp, rfl, fun i x h => by simp at h⟩

theorem RC.mono {α : Type} {R : Hp → List Nat → List Value → α → Prop} (hR : ∀ Φ Φ' F cs x, Hle Φ Φ' → R Φ F cs x → R Φ' F cs x) {sz : Nat} {Φ Φ' : Hp} (hle : Hle Φ Φ') {Fs : List (List Nat)} {cells : List Value} {xs : List α}
    (h : RC R sz Φ Fs cells xs) : RC R sz Φ' Fs cells xs := ⟨h.len, h.flen, fun i x hi => hR _ _ _ _ _ hle (h.el i x hi)⟩

theorem RC.snoc {α : Type} {R : Hp → List Nat → List Value → α → Prop} {sz : Nat} {Fs : List (List Nat)} {cells : List Value} {xs : List α} (h : RC R sz Φ Fs cells xs) {F : List Nat} {cs : List Value} {x : α} (hl : cs.length = sz) (hx : R Φ F cs x) :
    RC R sz Φ (Fs ++ [F]) (cells ++ cs) (xs ++ [x]) := by
  refine ⟨by simp [h.len, hl, Nat.add_mul], by simp [h.flen], fun i y hi => ?_⟩
  by_cases hlt : i < xs.length
  · rw [List.getElem?_append_left hlt] at hi
    have := h.el i y hi
    have hle : i * sz + sz ≤ cells.length := by
      rw [h.len, ← Nat.succ_mul]; exact Nat.mul_le_mul_right sz hlt
    rw [List.drop_append_of_le_length (by omega), List.take_append_of_le_length (by simp; omega)]
    have hF : (Fs ++ [F]).getD i [] = Fs.getD i [] := by
      simp only [List.getD_eq_getElem?_getD]
      rw [List.getElem?_append_left (by rw [h.flen]; exact hlt)]
    rw [hF]; exact this
  · have hi' : i = xs.length := by
      have := (List.getElem?_eq_some_iff.1 hi).1
      simp at this; omega
    subst hi'
    simp at hi
    subst hi
    have hd : (cells ++ cs).drop (xs.length * sz) = cs := by rw [← h.len]; simp
    have hF : (Fs ++ [F]).getD xs.length [] = F := by
      simp only [List.getD_eq_getElem?_getD]
      rw [← h.flen]; simp
    rw [hd, hF, List.take_of_length_le (by omega)]
    exact hx

/-- The frozen heap with a row in it. -/
def insRow (Φ : Hp) (v : Value) (w : World) : Hp := fun k => if v.ownBlock = some k then w.heap[k]? else Φ k

theorem RC.rsl {α : Type} {R : Hp → List Nat → List Value → α → Prop} (hR : ∀ Φ Φ' F cs x, Hle Φ Φ' → R Φ F cs x → R Φ' F cs x) {sz : Nat} {Fs : List (List Nat)} {cells : List Value} {xs : List α} {T : TypeId} {v : Value} (h : RC R sz Φ Fs cells xs)
    (hw : w.ownsRow 0 T sz v xs.length cells) (hout : ∀ k, v.ownBlock = some k → Φ k = none) :
    Hle Φ (insRow Φ v w) ∧ RSl R sz (insRow Φ v w) (v.ownBlock.toList ++ Fs.flatten) v xs := by
  have hle : Hle Φ (insRow Φ v w) := fun k o hk => by
    unfold insRow
    split
    · rename_i e; rw [hout k e] at hk; cases hk
    · exact hk
  refine ⟨hle, ?_⟩
  rcases hw.2 with ⟨rfl, h0⟩ | ⟨gb, cap, cur, rfl, hb, hg, hn, hcm, hcs, htake⟩
  · have hxs : xs = [] := List.eq_nil_of_length_eq_zero h0
    subst hxs
    have hF : Fs = [] := List.eq_nil_of_length_eq_zero (by rw [h.flen]; rfl)
    subst hF
    exact ⟨⟨none, 0, rfl⟩, fun h => absurd rfl h, [], rfl, by simp [Value.ownBlock], fun i x hi => by simp at hi⟩
  · refine ⟨⟨_, _, rfl⟩, fun _ => ⟨cap, rfl⟩, Fs, h.flen, rfl, fun i x hi => ?_⟩
    have hlt := (List.getElem?_eq_some_iff.1 hi).1
    have hle2 : i * sz + sz ≤ cells.length := by
      rw [h.len, ← Nat.succ_mul]; exact Nat.mul_le_mul_right sz hlt
    refine ⟨(cells.drop (i * sz)).take sz, by simp; omega, ?_, hR _ _ _ _ _ hle (h.el i x hi)⟩
    refine ⟨cur, T, (0, 0), ?_, fun j u hj => ?_⟩
    · simp [insRow, Value.ownBlock, sb, hg]
    · rw [List.getElem?_take] at hj
      split at hj
      · rename_i hjsz
        rw [List.getElem?_drop] at hj
        rw [← htake] at hj
        rw [List.getElem?_take] at hj
        split at hj
        · simp only [so, Nat.zero_add]
          rw [← Array.getElem?_toList]; exact hj
        · cases hj
      · cases hj

/-- The row at place i is read, frozen for good: its entry says from now on which blocks it takes. -/
theorem St.freezeRow {α : Type} {R : Hp → List Nat → List Value → α → Prop} (hR : ∀ Φ Φ' F cs x, Hle Φ Φ' → R Φ F cs x → R Φ' F cs x) {sz : Nat} {Fs : List (List Nat)} {cells : List Value} {xs : List α} {T : TypeId} {v : Value} {i : Nat}
    (hS : St w0 Φ L w) (hi : L[i]? = some (Ent.row T sz v xs.length cells)) (h : RC R sz Φ Fs cells xs) :
    ∃ Φ', Hle Φ Φ' ∧ (∀ k, k < w0.heap.size → Φ' k = Φ k) ∧ St w0 Φ' (L.set i (Ent.dat v.ownBlock.toList)) w ∧ RSl R sz Φ' (v.ownBlock.toList ++ Fs.flatten) v xs := by
  have hmem := List.mem_of_getElem? hi
  have hrow : w.ownsRow 0 T sz v xs.length cells := hS.own _ hmem
  obtain ⟨h1, h2⟩ := h.rsl hR hrow (fun k hk => (hS.new _ hmem k (by simp [Ent.row, hk])).2 rfl)
  have hsplit := split_at hi
  have hset := set_at (e' := Ent.dat v.ownBlock.toList) hi
  have hbl : blksOf (L.set i (Ent.dat v.ownBlock.toList)) = blksOf L := by
    rw [hset]; conv => rhs; rw [hsplit]
    simp [blksOf, List.flatMap_append, List.flatMap_cons, Ent.dat, Ent.row]
  refine ⟨insRow Φ v w, h1, ?_, ⟨hS.bel, ?_, ?_, ?_, by rw [hbl]; exact hS.nd⟩, h2⟩
  · intro k hk
    unfold insRow
    split
    · rename_i e
      have := (hS.new _ hmem k (by simp [Ent.row, e])).1
      omega
    · rfl
  · intro k o hk
    unfold insRow at hk
    split at hk
    · exact hk
    · exact hS.fro k o hk
  · intro e he
    rw [hset] at he
    simp only [List.mem_append, List.mem_cons] at he
    rcases he with he | rfl | he
    · exact hS.own e (List.mem_of_mem_take he)
    · intro k hk
      exact (Ent.row T sz v xs.length cells).lt w hrow k hk
    · exact hS.own e (List.mem_of_mem_drop he)
  · intro e he k hk
    rw [hset] at he
    simp only [List.mem_append, List.mem_cons] at he
    have hnd := hS.nd
    rw [hsplit] at hnd
    simp only [blksOf, List.flatMap_append, List.flatMap_cons] at hnd
    have key : ∀ x ∈ L, x ∈ L.take i ++ L.drop (i + 1) → k ∈ x.blks → w0.heap.size ≤ k ∧ (x.wr = true → insRow Φ v w k = none) := fun x hx hx' hkx => by
      refine ⟨(hS.new x hx k hkx).1, fun hm => ?_⟩
      unfold insRow
      rw [if_neg ?_]
      · exact (hS.new x hx k hkx).2 hm
      · intro e1
        have hkr : k ∈ (Ent.row T sz v xs.length cells).blks := by simp [Ent.row, e1]
        rcases List.mem_append.1 hx' with hx' | hx'
        · exact (List.nodup_append.1 hnd).2.2 k (List.mem_flatMap.2 ⟨x, hx', hkx⟩) k (by simp [hkr]) rfl
        · exact (List.nodup_append.1 (List.nodup_append.1 hnd).2.1).2.2 k hkr k (List.mem_flatMap.2 ⟨x, hx', hkx⟩) rfl
    rcases he with he | rfl | he
    · exact key e (List.mem_of_mem_take he) (by simp [he]) hk
    · exact ⟨(hS.new _ hmem k hk).1, fun hc => by cases hc⟩
    · exact key e (List.mem_of_mem_drop he) (by simp [he]) hk

end Go.Proofs.Ytpajhchhkfnieaa.Eng
