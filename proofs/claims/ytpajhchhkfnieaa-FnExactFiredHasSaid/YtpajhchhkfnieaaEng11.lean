/-
  The engine, part 11: slice literals and appends that grow rows, rows and variables frozen on the way, nil slices, and values of functions.
  Nothing here names a program.
-/
import Derived.Test.YtpajhchhkfnieaaEng10
import Derived.WalkSpells
namespace Go.Proofs.Ytpajhchhkfnieaa.Eng
set_option linter.unusedVariables false
set_option linter.unusedSimpArgs false
open Go.RowKit (Below)

variable {g : G} {k : List Item} {ops : Array Oper} {rest : List Oper} {l : List (Nat × Value)} {w0 : World} {Φ : Hp} {L : List Ent} {w : World} {S : World → Prop} {P : Program}

/-! ### Cells of a row -/
theorem RC.cons {α : Type} {R : Hp → List Nat → List Value → α → Prop} {sz : Nat} {F : List Nat} {Fs : List (List Nat)} {c cells : List Value} {x : α} {xs : List α} (hx : R Φ F c x) (hc : c.length = sz) (h : RC R sz Φ Fs cells xs) : RC R sz Φ (F :: Fs) (c ++ cells) (x :: xs) := by
  refine ⟨by simp [hc, h.len, Nat.succ_mul, Nat.add_comm], by simp [h.flen], fun i y hi => ?_⟩
  cases i with
  | zero =>
    simp only [List.getElem?_cons_zero, Option.some.injEq] at hi
    subst hi
    have : ((c ++ cells).drop (0 * sz)).take sz = c := by rw [Nat.zero_mul, List.drop_zero, ← hc, List.take_left']; rfl
    rw [this]; exact hx
  | succ i =>
    simp only [List.getElem?_cons_succ] at hi
    have := h.el i y hi
    have hd : (c ++ cells).drop ((i + 1) * sz) = cells.drop (i * sz) := by
      rw [Nat.succ_mul, Nat.add_comm, ← List.drop_drop, ← hc, List.drop_left']; rfl
    rw [hd]; exact this

/-- Elements without slices: no blocks. -/
theorem RC.flat0 {α : Type} {R : Hp → List Nat → List Value → α → Prop} (h0 : ∀ Φ F cs x, R Φ F cs x → F = []) {sz : Nat} {Fs : List (List Nat)} {cells : List Value} {xs : List α} (h : RC R sz Φ Fs cells xs) : SP Fs.flatten [] := by
  have : Fs.flatten = [] := by
    rw [List.flatten_eq_nil_iff]
    intro F hF
    obtain ⟨i, hi, rfl⟩ := List.getElem_of_mem hF
    have hx : i < xs.length := by rw [← h.flen]; exact hi
    have := h.el i xs[i] (List.getElem?_eq_getElem hx)
    have e := h0 _ _ _ _ this
    simpa [List.getD_eq_getElem?_getD, List.getElem?_eq_getElem hi] using e
  rw [this]; exact SP.nil _

theorem RC.one {α : Type} {R : Hp → List Nat → List Value → α → Prop} (h1 : ∀ Φ F cs x, R Φ F cs x → ∀ v ∈ cs, v.oneCell' = true) {sz : Nat} (hs : 0 < sz) {Fs : List (List Nat)} {cells : List Value} {xs : List α} (h : RC R sz Φ Fs cells xs) : ∀ v ∈ cells, v.oneCell' = true := by
  intro v hv
  obtain ⟨p, hp, rfl⟩ := List.getElem_of_mem hv
  have hlt : p / sz < xs.length := by rw [Nat.div_lt_iff_lt_mul hs, ← h.len]; exact hp
  have := h.el (p / sz) xs[p / sz] (List.getElem?_eq_getElem hlt)
  refine h1 _ _ _ _ this _ (List.mem_of_getElem? (i := p % sz) ?_)
  rw [List.getElem?_take, if_pos (Nat.mod_lt _ hs), List.getElem?_drop, Nat.mul_comm, Nat.div_add_mod, List.getElem?_eq_getElem hp]

theorem RI.one {kd : IntKind} : ∀ Φ F cs x, RI kd Φ F cs x → ∀ v ∈ cs, v.oneCell' = true := fun _ _ _ _ h v hv => by obtain ⟨rfl, -⟩ := h; simp at hv; subst hv; rfl
theorem RB.one : ∀ Φ F cs x, RB Φ F cs x → ∀ v ∈ cs, v.oneCell' = true := fun _ _ _ _ h v hv => by obtain ⟨rfl, -⟩ := h; simp at hv; subst hv; rfl
theorem RS.one : ∀ Φ F cs x, RS Φ F cs x → ∀ v ∈ cs, v.oneCell' = true := fun _ _ _ _ h v hv => by obtain ⟨rfl, -⟩ := h; simp at hv; subst hv; rfl

theorem rv_cell1 {t : TypeId} {p : Tmp} {b o : Nat} {v : Value} (ht : T1 P t = true) (hx : lk l p = some (.pointer (some ⟨b, o, none⟩))) (hr : ∀ w, S w → w.rangeAt b o [v]) : rvOk P (.cell p t) l S v :=
  ⟨⟨b, o, none⟩, hx, fun w hw => by simp [loadVar, Sem.run_bind, run_isAgg1 ht, cell_of_rangeAt (hr w hw)]⟩

/-! ### Parts put into cells -/
theorem foldl_setMany (off : Nat) : ∀ (c : List Value) (j : Nat) (A : Array Value), (c.zipIdx j).foldl (fun cs (p : Value × Nat) => cs.setIfInBounds (off + p.2) p.1) A = setMany A (off + j) c
  | [], j, A => rfl
  | v :: c, j, A => by
    rw [List.zipIdx_cons, List.foldl_cons, foldl_setMany off c (j + 1), setMany, Nat.add_assoc]

theorem fill_cons {place : Nat → Option (Nat × Nat)} {cells c C' : List Value} {i off size : Nat} {v : Value} {rest : List (Nat × Value)} {C : Array Value} (hp : place i = some (off, size)) (hc : v.cells.toList = c) (hl : c.length = size) (hb : Nat.ble (off + size) cells.length = true)
    (hput : put cells off c = C') (h : Instr.fill place C'.toArray rest = some C) : Instr.fill place cells.toArray ((i, v) :: rest) = some C := by
  subst hput hc
  unfold Instr.fill
  simp only [hp]
  have hs : v.cells.size = size := by rw [← hl]; simp
  rw [if_neg (by simp only [hs, List.size_toArray]; have := Nat.le_of_ble_eq_true hb; simp; omega)]
  have e : v.cells.zipIdx.foldl (fun cs (p : Value × Nat) => cs.setIfInBounds (off + p.2) p.1) cells.toArray = (put cells off v.cells.toList).toArray := by
    rw [← Array.foldl_toList, Array.toList_zipIdx, foldl_setMany off _ 0, setMany_put, Nat.add_zero]
  rw [← h]
  congr 1
theorem fill_nil {place : Nat → Option (Nat × Nat)} {cells : Array Value} : Instr.fill place cells [] = some cells := rfl
theorem fill_made {place : Nat → Option (Nat × Nat)} {z M : Array Value} {n : Nat} {vs : List (Nat × Value)} {C : Array Value} (hM : madeCells z n = M) (h : Instr.fill place M vs = some C) : Instr.fill place (madeCells z n) vs = some C := by rw [hM]; exact h

/-! ### Growing a row -/
theorem WL.appendRow {α : Type} {R : Hp → List Nat → List Value → α → Prop} {t e sz by' T Tx j jx d : Nat} {s x : Operand} {z v u : Value} {cells news : List Value} {Fs Gs : List (List Nat)} {xs ys zs : List α} {o : Oper} (ho : o.op = .call ⟨.builtin .append, #[s, x], #[t, t]⟩)
    (hg : o.guard = none) (hd : o.dst = some d) (hn : Nat.blt d g.n = true)
    (ht : Sl g.P t e sz = true) (he : Ei g.P e z sz by') (hT : T = e) (hzs : z.cells.size = sz) (hs0 : Nat.blt 0 sz = true) (hb : Nat.ble by' 32768 = true)
    (hs : opv l s = some v) (hx : opv l x = some u) (hj : L[j]? = some (Ent.row T sz v xs.length cells)) (hjx : L[jx]? = some (Ent.row Tx sz u ys.length news)) (h1 : ∀ Φ F cs x, R Φ F cs x → ∀ v ∈ cs, v.oneCell' = true)
    (hrc : RC R sz Φ Fs cells xs) (hrx : RC R sz Φ Gs news ys) (happ : app xs ys = some zs)
    (h : ∀ v', RC R sz Φ (Fs ++ Gs) (cells ++ news) zs → WL g k ops rest ((d, v') :: l) (St w0 Φ (L.set j (Ent.row T sz v' zs.length (cells ++ news))))) : WL g k ops (o :: rest) l (St w0 Φ L) := by
  obtain ⟨hbd, rfl⟩ := app_some happ
  have hlen : (xs ++ ys).length = xs.length + ys.length := by simp
  rw [hlen] at h
  exact WL.eff (α := Value) (v := fun v => v) (S' := fun v' => St w0 Φ (L.set j (Ent.row T sz v' (xs.length + ys.length) (cells ++ news)))) (e_append ho ht he hT hzs hs0 hb hs hx hj (RC.one h1 (by simpa using hs0) hrx) (src_row hjx) hbd) hg hd hn (fun v' => h v' (hrc.append hrx))

theorem WL.appendRsl {α : Type} {R : Hp → List Nat → List Value → α → Prop} {t e sz by' T j d : Nat} {s x : Operand} {z v u : Value} {cells : List Value} {F : List Nat} {Fs : List (List Nat)} {xs ys zs : List α} {o : Oper} (ho : o.op = .call ⟨.builtin .append, #[s, x], #[t, t]⟩)
    (hg : o.guard = none) (hd : o.dst = some d) (hn : Nat.blt d g.n = true)
    (ht : Sl g.P t e sz = true) (he : Ei g.P e z sz by') (hT : T = e) (hzs : z.cells.size = sz) (hs0 : Nat.blt 0 sz = true) (hb : Nat.ble by' 32768 = true)
    (hs : opv l s = some v) (hx : opv l x = some u) (hj : L[j]? = some (Ent.row T sz v xs.length cells)) (h1 : ∀ Φ F cs x, R Φ F cs x → ∀ v ∈ cs, v.oneCell' = true)
    (hrc : RC R sz Φ Fs cells xs) (hrx : RSl R sz Φ F u ys) (happ : app xs ys = some zs)
    (h : ∀ v' Gs news, F = u.ownBlock.toList ++ Gs.flatten → RC R sz Φ (Fs ++ Gs) (cells ++ news) zs → WL g k ops rest ((d, v') :: l) (St w0 Φ (L.set j (Ent.row T sz v' zs.length (cells ++ news))))) : WL g k ops (o :: rest) l (St w0 Φ L) := by
  obtain ⟨hbd, rfl⟩ := app_some happ
  have hlen : (xs ++ ys).length = xs.length + ys.length := by simp
  rw [hlen] at h
  obtain ⟨Gs, news, r1, r2, r3, r4⟩ := src_rsl hrx h1
  exact WL.eff (α := Value) (v := fun v => v) (S' := fun v' => St w0 Φ (L.set j (Ent.row T sz v' (xs.length + ys.length) (cells ++ news)))) (e_append ho ht he hT hzs hs0 hb hs hx hj r3 (fun w hw => r4 w hw.fro) hbd) hg hd hn (fun v' => h v' Gs news r2 (hrc.append r1))

theorem WM.buildSlice {kp : Nat → Bool} {fuel : Nat} {done : List Nat} {t e sz n : Nat} {parts : Array (Nat × Operand)} {o : Oper} {z : Value} {vs : List (Nat × Value)} {C : Array Value} {d : Nat} (i : Nat) (hi : ops[i]? = some o) (hr : Region.ready .any ops (lst ops done) = [i])
    (ho : o.op = .buildSlice t n parts) (hg : o.guard = none) (hd : o.dst = some d) (hn : Nat.blt d g.n = true)
    (ht : Sl g.P t e sz = true) (hz : Zr g.P e z) (hzs : z.cells.size = sz) (hsm : Nat.ble (n * sz) 4096 = true) (hs0 : Nat.blt 0 sz = true)
    (hv : parts.toList.map (fun p => (p.1, opv l p.2)) = vs.map (fun p => (p.1, some p.2))) (hC : Instr.fill (fun i => some (i * sz, sz)) (madeCells z.cells (n * sz)) vs = some C) (hCs : C.size = n * sz)
    (hk : kp i = true → ∀ b w, St w0 Φ (Ent.row e sz (.slice (some ⟨b, 0, none⟩) n n) n C.toList :: L) w → S w)
    (h : ∀ b, WM g k ops S kp fuel (i :: done) ((d, .slice (some ⟨b, 0, none⟩) n n) :: l) (St w0 Φ (Ent.row e sz (.slice (some ⟨b, 0, none⟩) n n) n C.toList :: L))) : WM g k ops S kp (fuel + 1) done l (St w0 Φ L) :=
  WM.eff (v := fun b : Nat => .slice (some ⟨b, 0, none⟩) n n) (S' := fun b => St w0 Φ (Ent.row e sz (.slice (some ⟨b, 0, none⟩) n n) n C.toList :: L)) i hi hr hk (x_buildSlice ho ht hz hzs hsm hs0 hv hC hCs) hg hd hn h

/-! ### Frozen for good, on the way -/
def insO (Φ : Hp) (b : Nat) (o : Obj) : Hp := fun k => if k = b then some o else Φ k

theorem St.freezeObj {i b : Nat} {o : Obj} (hS : St w0 Φ L w) (hi : L[i]? = some (Ent.obj b o)) : Hle Φ (insO Φ b o) ∧ (∀ k, k < w0.heap.size → insO Φ b o k = Φ k) ∧ St w0 (insO Φ b o) (L.set i (Ent.dat [b])) w := by
  have hmem := List.mem_of_getElem? hi
  have hb : w.heap[b]? = some o := hS.own _ hmem
  have hnew := hS.new _ hmem b (by simp [Ent.obj])
  have hout : Φ b = none := hnew.2 rfl
  have hsplit := split_at hi
  have hset := set_at (e' := Ent.dat [b]) hi
  have hbl : blksOf (L.set i (Ent.dat [b])) = blksOf L := by
    rw [hset]; conv => rhs; rw [hsplit]
    simp [blksOf, List.flatMap_append, List.flatMap_cons, Ent.dat, Ent.obj]
  have hin : In (insO Φ b o) w := by
    intro x y hx
    unfold insO at hx
    split at hx
    · rename_i e; subst e; rw [hb]; exact hx
    · exact hS.fro x y hx
  refine ⟨?_, ?_, ⟨hS.bel, hin, ?_, ?_, by rw [hbl]; exact hS.nd⟩⟩
  · intro x y hx
    unfold insO
    split
    · rename_i e; subst e; rw [hout] at hx; cases hx
    · exact hx
  · intro x hx
    unfold insO
    split
    · rename_i e; subst e; omega
    · rfl
  · intro e he
    rw [hset] at he
    simp only [List.mem_append, List.mem_cons] at he
    rcases he with he | rfl | he
    · exact hS.own e (by rw [hsplit]; simp [he])
    · intro x hx
      simp only [Ent.dat, List.mem_singleton] at hx
      subst hx
      exact (Array.getElem?_eq_some_iff.1 hb).1
    · exact hS.own e (by rw [hsplit]; simp [he])
  · intro e he x hx
    have key : ∀ e ∈ L, e ≠ Ent.obj b o ∨ True := fun _ _ => .inr trivial
    have hnd := hS.nd
    have hne : ∀ e', e' ∈ L → x ∈ e'.blks → (e' ∈ L.take i ∨ e' ∈ L.drop (i + 1)) → x ≠ b := by
      intro e' he' hxe hpos hxb
      subst hxb
      rw [hsplit] at hnd
      simp only [blksOf, List.flatMap_append, List.flatMap_cons] at hnd
      rcases hpos with hp | hp
      · have hm : x ∈ (L.take i).flatMap Ent.blks := List.mem_flatMap.2 ⟨e', hp, hxe⟩
        have := (List.nodup_append.1 hnd).2.2 x hm x (by simp [Ent.obj])
        exact this rfl
      · have hm : x ∈ (L.drop (i + 1)).flatMap Ent.blks := List.mem_flatMap.2 ⟨e', hp, hxe⟩
        have h2 := (List.nodup_append.1 hnd).2.1
        have := (List.nodup_append.1 h2).2.2 x (by simp [Ent.obj]) x hm
        exact this rfl
    rw [hset] at he
    simp only [List.mem_append, List.mem_cons] at he
    rcases he with he | rfl | he
    · have hL : e ∈ L := List.mem_of_mem_take he
      refine ⟨(hS.new e hL x hx).1, fun hw => ?_⟩
      unfold insO
      rw [if_neg (hne e hL hx (.inl he))]
      exact (hS.new e hL x hx).2 hw
    · simp only [Ent.dat, List.mem_singleton] at hx
      subst hx
      exact ⟨hnew.1, fun hw => by cases hw⟩
    · have hL : e ∈ L := List.mem_of_mem_drop he
      refine ⟨(hS.new e hL x hx).1, fun hw => ?_⟩
      unfold insO
      rw [if_neg (hne e hL hx (.inr he))]
      exact (hS.new e hL x hx).2 hw

theorem WL.freezeObj {i b : Nat} {o : Obj} (hi : L[i]? = some (Ent.obj b o)) (h : Hle Φ (insO Φ b o) → (∀ k, k < w0.heap.size → insO Φ b o k = Φ k) → WL g k ops rest l (St w0 (insO Φ b o) (L.set i (Ent.dat [b])))) : WL g k ops rest l (St w0 Φ L) := fun a w hf hw => by
  obtain ⟨h1, h2, h3⟩ := hw.freezeObj hi
  exact h h1 h2 a w hf h3
theorem WM.freezeObj {kp : Nat → Bool} {fuel : Nat} {done : List Nat} {i b : Nat} {o : Obj} (hi : L[i]? = some (Ent.obj b o)) (h : Hle Φ (insO Φ b o) → (∀ k, k < w0.heap.size → insO Φ b o k = Φ k) → WM g k ops S kp fuel done l (St w0 (insO Φ b o) (L.set i (Ent.dat [b])))) : WM g k ops S kp fuel done l (St w0 Φ L) := fun a w hf hw => by
  obtain ⟨h1, h2, h3⟩ := hw.freezeObj hi
  exact h h1 h2 a w hf h3

/-- A variable is frozen: from now on it is only read. -/
theorem WL.freezeVar {i b T : Nat} {C : Array Value} {fz : Nat × Nat} (hi : L[i]? = some (Ent.obj b (.cells C T fz))) (h : ∀ Φ', Hle Φ Φ' → (∀ k, k < w0.heap.size → Φ' k = Φ k) → rg Φ' b 0 C.toList → WL g k ops rest l (St w0 Φ' (L.set i (Ent.dat [b])))) : WL g k ops rest l (St w0 Φ L) :=
  WL.freezeObj hi fun h1 h2 => h _ h1 h2 ⟨C, T, fz, by simp [insO], fun j u hj => by simpa using hj⟩
theorem WM.freezeVar {kp : Nat → Bool} {fuel : Nat} {done : List Nat} {i b T : Nat} {C : Array Value} {fz : Nat × Nat} (hi : L[i]? = some (Ent.obj b (.cells C T fz))) (h : ∀ Φ', Hle Φ Φ' → (∀ k, k < w0.heap.size → Φ' k = Φ k) → rg Φ' b 0 C.toList → WM g k ops S kp fuel done l (St w0 Φ' (L.set i (Ent.dat [b])))) : WM g k ops S kp fuel done l (St w0 Φ L) :=
  WM.freezeObj hi fun h1 h2 => h _ h1 h2 ⟨C, T, fz, by simp [insO], fun j u hj => by simpa using hj⟩

theorem WL.freezeRow {α : Type} {R : Hp → List Nat → List Value → α → Prop} (hR : ∀ Φ Φ' F cs x, Hle Φ Φ' → R Φ F cs x → R Φ' F cs x) {sz : Nat} {Fs : List (List Nat)} {cells : List Value} {xs : List α} {T : TypeId} {v : Value} {i : Nat}
    (hi : L[i]? = some (Ent.row T sz v xs.length cells)) (hc : RC R sz Φ Fs cells xs)
    (h : ∀ Φ', Hle Φ Φ' → (∀ k, k < w0.heap.size → Φ' k = Φ k) → RSl R sz Φ' (v.ownBlock.toList ++ Fs.flatten) v xs → WL g k ops rest l (St w0 Φ' (L.set i (Ent.dat v.ownBlock.toList)))) : WL g k ops rest l (St w0 Φ L) := fun a w hf hw => by
  obtain ⟨Φ', h1, h2, h3, h4⟩ := hw.freezeRow hR hi hc
  exact h Φ' h1 h2 h4 a w hf h3
theorem WM.freezeRow {kp : Nat → Bool} {fuel : Nat} {done : List Nat} {α : Type} {R : Hp → List Nat → List Value → α → Prop} (hR : ∀ Φ Φ' F cs x, Hle Φ Φ' → R Φ F cs x → R Φ' F cs x) {sz : Nat} {Fs : List (List Nat)} {cells : List Value} {xs : List α} {T : TypeId} {v : Value} {i : Nat}
    (hi : L[i]? = some (Ent.row T sz v xs.length cells)) (hc : RC R sz Φ Fs cells xs)
    (h : ∀ Φ', Hle Φ Φ' → (∀ k, k < w0.heap.size → Φ' k = Φ k) → RSl R sz Φ' (v.ownBlock.toList ++ Fs.flatten) v xs → WM g k ops S kp fuel done l (St w0 Φ' (L.set i (Ent.dat v.ownBlock.toList)))) : WM g k ops S kp fuel done l (St w0 Φ L) := fun a w hf hw => by
  obtain ⟨Φ', h1, h2, h3, h4⟩ := hw.freezeRow hR hi hc
  exact h Φ' h1 h2 h4 a w hf h3

/-! ### Is a slice nil? -/
theorem RSl.nilOr {α : Type} {R : Hp → List Nat → List Value → α → Prop} {sz : Nat} {F : List Nat} {v : Value} {xs : List α} (h : RSl R sz Φ F v xs) : (xs = [] ∧ ∃ c, v = .slice none 0 c) ∨ ∃ a c, v = .slice (some a) xs.length c := by
  obtain ⟨a, c, hv⟩ := h.form
  cases a with
  | some a => exact .inr ⟨a, c, hv⟩
  | none =>
    by_cases hx : xs = []
    · subst hx; exact .inl ⟨rfl, c, hv⟩
    · obtain ⟨c', hc⟩ := h.addr hx
      rw [hc] at hv; cases hv

theorem q_eqNil {t e sz u n c : Nat} {x y : Operand} {a : Option Addr} (ht : Sl P t e sz = true) (hx : opv l x = some (.slice a n c)) (hy : opv l y = some (.slice none 0 0)) : OpQ P (.binOp .eql t x y u) l S (.bool a.isNone) := fun m b w o ho hf hw => by
  have hu := Sl_und ht
  unfold execOp; simp only [ho, hf.eval hx, hf.eval hy]
  simp [eqGuard, Sem.run_bind, Lib.run_eql_slice_nil w t e a n c 0 0 hu]
theorem q_neNil {t e sz u n c : Nat} {x y : Operand} {a : Option Addr} (ht : Sl P t e sz = true) (hx : opv l x = some (.slice a n c)) (hy : opv l y = some (.slice none 0 0)) : OpQ P (.binOp .neq t x y u) l S (.bool (!a.isNone)) := fun m b w o ho hf hw => by
  have hu := Sl_und ht
  unfold execOp; simp only [ho, hf.eval hx, hf.eval hy]
  simp [eqGuard, Sem.run_bind, run_neq_slice_nil_any w t e a n c 0 0 hu]

/-! ### Values of functions -/
theorem q_makeFunc {fn : Fn} {xs : List Operand} {vs : List Value} (ha : opvs l xs = some vs) : OpQ P (.makeFunc fn #[] xs.toArray) l S (.func fn #[] vs.toArray) := fun n a w o ho hf hw => by
  unfold execOp
  simp only [ho]
  have : xs.toArray.map a.eval = vs.toArray := by simp [opvs_map hf ha]
  simp [this, Instr.makeFunc]

theorem c_callV {f : Nat} {x : Operand} {xs : List Operand} {ts : Array TypeId} {α : Type} {v : α → Value} {S' : α → World → Prop} {vs fr : List Value} (hF : Fun P f = true) (hx : opv l x = some (.func (.func f) #[] fr.toArray)) (ha : opvs l xs = some vs)
    (h : ∀ w, S w → Calls P f (vs ++ fr).toArray w fun e w' => ∃ x, e = .returned (v x) ∧ S' x w') : OpC P (.call ⟨.value x, xs.toArray, ts⟩) l S v S' := fun n a w o ho hf hw => by
  refine ⟨f, (vs ++ fr).toArray, ?_, h w hw⟩
  unfold execOp
  simp only [ho, resolve]
  have : xs.toArray.map a.eval = vs.toArray := by simp [opvs_map hf ha]
  simp only [this, hf.eval hx]
  simp [Deferred.ofValue, invoke, Sem.run_bind, run_callFunc hF]

theorem c_pureV {f : Nat} {x : Operand} {xs : List Operand} {ts : Array TypeId} {v : Value} {vs fr : List Value} (hF : Fun P f = true) (hx : opv l x = some (.func (.func f) #[] fr.toArray)) (ha : opvs l xs = some vs)
    (h : ∀ w, St w0 Φ L w → Calls P f (vs ++ fr).toArray w (Post v w)) : OpC P (.call ⟨.value x, xs.toArray, ts⟩) l (St w0 Φ L) (fun _ : Unit => v) (fun _ => St w0 Φ L) :=
  c_callV hF hx ha fun w hw => Calls.keep hw (h w hw)

end Go.Proofs.Ytpajhchhkfnieaa.Eng
