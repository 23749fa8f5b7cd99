/-
  The engine, part 5: rows that the function makes, fills and appends to; literals of structs and slices.
  Nothing here names a program.
-/
import Derived.Test.YtpajhchhkfnieaaEng4
namespace Go.Proofs.Ytpajhchhkfnieaa.Eng
open Go.RowKit (Below wrap64)
set_option linter.unusedVariables false
set_option linter.unusedSimpArgs false

variable {g : G} {k : List Item} {ops : Array Oper} {rest : List Oper} {l : Env} {w0 : World} {Φ : Hp} {L : List Ent} {w w' : World} {S : World → Prop}

/-! ### Blocks that the data takes -/
/-- A is a part of B, each as often at most. -/
def SP (A B : List Nat) : Prop := ∃ C, (A ++ C).Perm B
theorem SP.refl (A : List Nat) : SP A A := ⟨[], by simp⟩
theorem SP.nil (A : List Nat) : SP [] A := ⟨A, by simp⟩
theorem SP.trans {A B C : List Nat} (h : SP A B) (h' : SP B C) : SP A C := by
  obtain ⟨D, h⟩ := h
  obtain ⟨E, h'⟩ := h'
  exact ⟨D ++ E, by rw [← List.append_assoc]; exact (h.append_right E).trans h'⟩
theorem SP.append {A B C D : List Nat} (h : SP A B) (h' : SP C D) : SP (A ++ C) (B ++ D) := by
  obtain ⟨E, h⟩ := h
  obtain ⟨F, h'⟩ := h'
  refine ⟨E ++ F, ?_⟩
  have h1 : (A ++ C ++ (E ++ F)).Perm (A ++ E ++ (C ++ F)) := by
    simp only [List.append_assoc]
    refine List.Perm.append_left A ?_
    rw [← List.append_assoc, ← List.append_assoc]
    exact List.perm_append_comm.append_right F
  exact h1.trans (h.append h')
theorem SP.nodup {A B : List Nat} (h : SP A B) (hB : B.Nodup) : A.Nodup := by
  obtain ⟨C, h⟩ := h
  exact (List.nodup_append.1 (h.nodup_iff.2 hB)).1
theorem SP.mem {A B : List Nat} (h : SP A B) {x : Nat} (hx : x ∈ A) : x ∈ B := by
  obtain ⟨C, h⟩ := h
  exact h.mem_iff.1 (List.mem_append.2 (.inl hx))
theorem SP.perm {A B : List Nat} (h : A.Perm B) : SP A B := ⟨[], by simpa using h⟩

theorem flatten_set_SP (Fs : List (List Nat)) (i : Nat) (F : List Nat) : SP (Fs.set i F).flatten (Fs.flatten ++ F) := by
  induction Fs generalizing i with
  | nil => simp; exact SP.nil _
  | cons G Gs ih =>
    cases i with
    | zero =>
      simp only [List.set_cons_zero, List.flatten_cons]
      refine ⟨G, ?_⟩
      rw [List.append_assoc, List.append_assoc]
      have h1 : (F ++ (Gs.flatten ++ G)).Perm ((Gs.flatten ++ G) ++ F) := List.perm_append_comm
      refine h1.trans ?_
      rw [← List.append_assoc]
      exact List.perm_append_comm.append_right F
    | succ i =>
      simp only [List.set_cons_succ, List.flatten_cons]
      rw [List.append_assoc]
      exact (SP.refl G).append (ih i)

theorem SP.set {Fs : List (List Nat)} {A F : List Nat} (h : SP Fs.flatten A) (i : Nat) : SP (Fs.set i F).flatten (A ++ F) :=
  (flatten_set_SP Fs i F).trans (h.append (SP.refl F))
theorem SP.snoc {Fs : List (List Nat)} {A F : List Nat} (h : SP Fs.flatten A) : SP (Fs ++ [F]).flatten (A ++ F) := by
  rw [List.flatten_append]; simpa using h.append (SP.refl F)

/-- The entry at place i comes first. -/
theorem St.front (h : St w0 Φ L w) {i : Nat} {e : Ent} (hi : L[i]? = some e) : St w0 Φ (e :: L.eraseIdx i) w := by
  refine h.perm ?_
  conv => lhs; rw [split_at hi]
  rw [List.eraseIdx_eq_take_drop_succ]
  exact List.perm_middle

/-- Two entries of data are one. -/
theorem St.merge {F A : List Nat} (h : St w0 Φ (Ent.dat F :: L) w) {i : Nat} (hi : L[i]? = some (Ent.dat A)) : St w0 Φ (L.set i (Ent.dat (A ++ F))) w := by
  have hL : St w0 Φ L w := h.less (List.sublist_cons_self _ _)
  have hset := set_at (e' := Ent.dat (A ++ F)) hi
  have hsplit := split_at hi
  have hF : (Ent.dat F).holds w := h.own _ (by simp)
  have hA : (Ent.dat A).holds w := hL.own _ (List.mem_of_getElem? hi)
  refine ⟨h.bel, h.fro, ?_, ?_, ?_⟩
  · intro e he
    rw [hset] at he
    simp only [List.mem_append, List.mem_cons] at he
    rcases he with he | rfl | he
    · exact hL.own e (List.mem_of_mem_take he)
    · intro x hx
      rcases List.mem_append.1 hx with hx | hx
      · exact hA x hx
      · exact hF x hx
    · exact hL.own e (List.mem_of_mem_drop he)
  · intro e he x hx
    rw [hset] at he
    simp only [List.mem_append, List.mem_cons] at he
    rcases he with he | rfl | he
    · exact hL.new e (List.mem_of_mem_take he) x hx
    · refine ⟨?_, fun hc => by cases hc⟩
      rcases List.mem_append.1 hx with hx | hx
      · exact (hL.new _ (List.mem_of_getElem? hi) x hx).1
      · exact (h.new (Ent.dat F) (by simp) x hx).1
    · exact hL.new e (List.mem_of_mem_drop he) x hx
  · have hnd := h.nd
    rw [hsplit] at hnd
    rw [hset]
    simp only [blksOf, List.flatMap_cons, List.flatMap_append, Ent.dat] at hnd ⊢
    refine (List.Perm.nodup_iff ?_).1 hnd
    have h1 : (F ++ (List.flatMap Ent.blks (List.take i L) ++ (A ++ List.flatMap Ent.blks (List.drop (i + 1) L)))).Perm
        ((List.flatMap Ent.blks (List.take i L) ++ (A ++ List.flatMap Ent.blks (List.drop (i + 1) L))) ++ F) := List.perm_append_comm
    refine h1.trans ?_
    simp only [List.append_assoc]
    refine List.Perm.append_left _ (List.Perm.append_left A ?_)
    exact List.perm_append_comm

theorem St.addNil (h : St w0 Φ L w) (T sz : Nat) : St w0 Φ (Ent.row T sz (.slice none 0 0) 0 [] :: L) w :=
  ⟨h.bel, h.fro, fun e he => by
    rcases List.mem_cons.1 he with rfl | he
    · exact World.ownsRow_nil w 0 T sz
    · exact h.own e he, fun e he x hx => by
    rcases List.mem_cons.1 he with rfl | he
    · simp [Ent.row, Value.ownBlock] at hx
    · exact h.new e he x hx, by simpa [blksOf, Ent.row, Value.ownBlock] using h.nd⟩

theorem St.addDat (h : St w0 Φ L w) : St w0 Φ (Ent.dat [] :: L) w :=
  ⟨h.bel, h.fro, fun e he => by
    rcases List.mem_cons.1 he with rfl | he
    · intro x hx; cases hx
    · exact h.own e he, fun e he x hx => by
    rcases List.mem_cons.1 he with rfl | he
    · cases hx
    · exact h.new e he x hx, by simpa [blksOf, Ent.dat] using h.nd⟩

/-- What new data takes: blocks that were not there, each once. -/
structure Lin (n : Nat) (w' : World) (F : List Nat) : Prop where
  nd : F.Nodup
  lo : ∀ x ∈ F, n ≤ x
  hi : ∀ x ∈ F, x < w'.heap.size

theorem St.lin (h : St w0 Φ L w) {F : List Nat} (hs : SP F (blksOf L)) : Lin w0.heap.size w F :=
  ⟨hs.nodup h.nd, fun x hx => by
    obtain ⟨e, he, hb⟩ := List.mem_flatMap.1 (hs.mem hx)
    exact (h.new e he x hb).1, fun x hx => h.lt (hs.mem hx)⟩

/-- New data comes in. -/
theorem St.addLin {w1 : World} {F : List Nat} (h : St w0 Φ L w1) {n : Nat} (hn : ∀ e ∈ L, ∀ x ∈ e.blks, x < n) (h0 : w0.heap.size ≤ n) (hF : Lin n w1 F) : St w0 Φ (Ent.dat F :: L) w1 := by
  refine ⟨h.bel, h.fro, fun e he => ?_, fun e he x hx => ?_, ?_⟩
  · rcases List.mem_cons.1 he with rfl | he
    · exact hF.hi
    · exact h.own e he
  · rcases List.mem_cons.1 he with rfl | he
    · exact ⟨Nat.le_trans h0 (hF.lo x hx), fun hc => by cases hc⟩
    · exact h.new e he x hx
  · simp only [blksOf, List.flatMap_cons, Ent.dat]
    refine List.nodup_append.2 ⟨hF.nd, h.nd, fun a ha b hb hab => ?_⟩
    subst hab
    obtain ⟨e, he, hx⟩ := List.mem_flatMap.1 hb
    have := hn e he a hx
    have := hF.lo a ha
    omega

/-! ### Contracts of functions that make data -/
/-- v reads as Q says in a greater frozen heap; F: the new blocks that it takes. -/
def PostL (Φ : Hp) (w : World) (Q : Hp → List Nat → Value → Prop) : Ending → World → Prop := fun e w' =>
  ∃ v Φ' F, e = .returned v ∧ Below w.heap.size w w' ∧ Hle Φ Φ' ∧ In Φ' w' ∧ (∀ x, x < w.heap.size → Φ' x = Φ x) ∧ Lin w.heap.size w' F ∧ Q Φ' F v

theorem Calls.keepL {P : Program} {f : Nat} {args : Array Value} {Q : Hp → List Nat → Value → Prop} (hS : St w0 Φ L w) (h : Calls P f args w (PostL Φ w Q)) :
    Calls P f args w fun e w' => ∃ x : Value × Hp × List Nat, e = .returned x.1 ∧ (Hle Φ x.2.1 ∧ (∀ y, y < w0.heap.size → x.2.1 y = Φ y) ∧ Q x.2.1 x.2.2 x.1) ∧ St w0 x.2.1 (Ent.dat x.2.2 :: L) w' :=
  h.mono fun e w' ⟨v, Φ', F, h1, h2, h3, h4, h5, h6, h7⟩ => ⟨(v, Φ', F), h1, ⟨h3, fun y hy => h5 y (Nat.lt_of_lt_of_le hy hS.bel.size), h7⟩, by
    have hlt : ∀ e ∈ L, ∀ x ∈ e.blks, x < w.heap.size := fun e he x hx => e.lt w (hS.own e he) x hx
    exact ((hS.call h2).more (n := w.heap.size) hlt h4 h5).addLin hlt hS.bel.size h6⟩

theorem c_lin {P : Program} {f : Nat} {xs : List Operand} {ts : Array TypeId} {Q : Hp → List Nat → Value → Prop} {vs : List Value} (hF : Fun P f = true) (ha : opvs l xs = some vs)
    (h : ∀ w, St w0 Φ L w → Calls P f vs.toArray w (PostL Φ w Q)) :
    OpC P (.call ⟨.value (.func f), xs.toArray, ts⟩) l (St w0 Φ L) (fun x : Value × Hp × List Nat => x.1) (fun x w' => (Hle Φ x.2.1 ∧ (∀ y, y < w0.heap.size → x.2.1 y = Φ y) ∧ Q x.2.1 x.2.2 x.1) ∧ St w0 x.2.1 (Ent.dat x.2.2 :: L) w') :=
  c_call hF ha fun w hw => Calls.keepL hw (h w hw)

theorem WL.callL {o : Oper} {d : Nat} {f : Nat} {xs : List Operand} {ts : Array TypeId} {Q : Hp → List Nat → Value → Prop} {vs : List Value} (ho : o.op = .call ⟨.value (.func f), xs.toArray, ts⟩) (hg : o.guard = none) (hd : o.dst = some d) (hn : Nat.blt d g.n = true)
    (hF : Fun g.P f = true) (ha : opvs l xs = some vs) (hc : ∀ w, St w0 Φ L w → Calls g.P f vs.toArray w (PostL Φ w Q))
    (h : ∀ (v : Value) (Φ' : Hp) (F : List Nat), Hle Φ Φ' → (∀ y, y < w0.heap.size → Φ' y = Φ y) → Q Φ' F v → WL g k ops rest ((d, v) :: l) (St w0 Φ' (Ent.dat F :: L))) : WL g k ops (o :: rest) l (St w0 Φ L) := by
  refine WL.call (by rw [ho]; exact c_lin hF ha hc) hg hd hn fun x => ?_
  exact WL.pull fun ⟨h1, h2, h3⟩ => h x.1 x.2.1 x.2.2 h1 h2 h3

theorem WM.callL {kp : Nat → Bool} {fuel : Nat} {done : List Nat} {o : Oper} {d : Nat} {f : Nat} {xs : List Operand} {ts : Array TypeId} {Q : Hp → List Nat → Value → Prop} {vs : List Value} (i : Nat) (hi : ops[i]? = some o) (hr : Region.ready .any ops (lst ops done) = [i])
    (ho : o.op = .call ⟨.value (.func f), xs.toArray, ts⟩) (hg : o.guard = none) (hd : o.dst = some d) (hn : Nat.blt d g.n = true)
    (hF : Fun g.P f = true) (ha : opvs l xs = some vs) (hkeep : ∀ Φ' F w, Hle Φ Φ' → St w0 Φ' (Ent.dat F :: L) w → S w) (hc : ∀ w, St w0 Φ L w → Calls g.P f vs.toArray w (PostL Φ w Q))
    (h : ∀ (v : Value) (Φ' : Hp) (F : List Nat), Hle Φ Φ' → (∀ y, y < w0.heap.size → Φ' y = Φ y) → Q Φ' F v → WM g k ops S kp fuel (i :: done) ((d, v) :: l) (St w0 Φ' (Ent.dat F :: L))) : WM g k ops S kp (fuel + 1) done l (St w0 Φ L) := by
  refine WM.call (v := fun x : Value × Hp × List Nat => x.1) (S' := fun x w' => (Hle Φ x.2.1 ∧ (∀ y, y < w0.heap.size → x.2.1 y = Φ y) ∧ Q x.2.1 x.2.2 x.1) ∧ St w0 x.2.1 (Ent.dat x.2.2 :: L) w') i hi hr (fun _ x w hw => hkeep _ _ w hw.1.1 hw.2) (by rw [ho]; exact c_lin hF ha hc) hg hd hn fun x => ?_
  exact WM.pull fun ⟨h1, h2, h3⟩ => h x.1 x.2.1 x.2.2 h1 h2 h3

/-- The function's own post at its end. -/
theorem postL_of_St {v : Value} {Φ0 : Hp} {F : List Nat} {Q : Hp → List Nat → Value → Prop} (h : St w0 Φ L w) (hle : Hle Φ0 Φ) (hold : ∀ x, x < w0.heap.size → Φ x = Φ0 x) (hs : SP F (blksOf L)) (hQ : Q Φ F v) : PostL Φ0 w0 Q (.returned v) w :=
  ⟨v, Φ, F, rfl, h.bel, hle, h.fro, hold, h.lin hs, hQ⟩

/-! ### make -/
def By (P : Program) (t n : Nat) : Bool := (P.info? t).map (·.bytes) == some n
def mk {α : Type} (z : α) (n : Int) : Option (List α) := if 0 ≤ n ∧ n ≤ 4294967296 then some (List.replicate n.toNat z) else none

theorem madeCells_at {z : Array Value} {sz m i : Nat} (hz : z.size = sz) (hs : 0 < sz) (hi : i < m) : ((madeCells z (m * sz)).toList.drop (i * sz)).take sz = z.toList := by
  apply List.ext_getElem?
  intro j
  have hle : i * sz + sz ≤ m * sz := by rw [← Nat.succ_mul]; exact Nat.mul_le_mul_right sz hi
  rw [List.getElem?_take]
  by_cases hj : j < sz
  · rw [if_pos hj, List.getElem?_drop]
    have h1 : i * sz + j < (madeCells z (m * sz)).size := by rw [size_madeCells]; omega
    rw [Array.getElem?_toList, Array.getElem?_eq_getElem h1, Array.getElem?_toList, Array.getElem?_eq_getElem (by omega)]
    simp only [madeCells, Array.getElem_map, Array.getElem_range]
    congr 1
    have h2 : (i * sz + j) % z.size = j := by
      rw [hz, Nat.mul_comm, Nat.mul_add_mod]; exact Nat.mod_eq_of_lt hj
    rw [h2]
    exact getElem!_pos z j (by omega)
  · rw [if_neg hj, List.getElem?_eq_none (by simp; omega)]

theorem WL.make {α : Type} {R : Hp → List Nat → List Value → α → Prop} {o : Oper} {d : Nat} {t e sz by' : Nat} {x y : Operand} {z : Value} {zx : α} {n : Int} {xs : List α} (ho : o.op = .makeSlice t x y) (hg : o.guard = none) (hd : o.dst = some d) (hn : Nat.blt d g.n = true)
    (ht : Sl g.P t e sz = true) (hz : Zr g.P e z) (hb : By g.P e by' = true) (hsm : Nat.ble by' 65536 = true) (hs0 : Nat.blt 0 sz = true) (hzs : z.cells.size = sz) (hR : R Φ [] z.cells.toList zx)
    (hx : opv l x = some (.int .i64 n)) (hy : opv l y = some (.int .i64 n)) (hm : mk zx n = some xs)
    (h : ∀ b cells Fs, RC R sz Φ Fs cells xs → SP Fs.flatten [] →
      WL g k ops rest ((d, .slice (some ⟨b, 0, none⟩) xs.length xs.length) :: l) (St w0 Φ (Ent.row e sz (.slice (some ⟨b, 0, none⟩) xs.length xs.length) xs.length cells :: L))) :
    WL g k ops (o :: rest) l (St w0 Φ L) := by
  unfold mk at hm
  split at hm
  · rename_i hbd
    obtain ⟨h0, h1⟩ := hbd
    simp only [Option.some.injEq] at hm
    subst hm
    simp only [List.length_replicate] at h
    have hsz : 0 < sz := by simpa using hs0
    obtain ⟨m, rfl⟩ := Int.eq_ofNat_of_zero_le h0
    simp only [Int.toNat_natCast] at h
    refine WL.eff (v := fun b : Nat => .slice (some ⟨b, 0, none⟩) m m) (S' := fun b => St w0 Φ (Ent.row e sz (.slice (some ⟨b, 0, none⟩) m m) m (madeCells z.cells (m * sz)).toList :: L))
      (fun a w hf hw => ⟨w.heap.size, w.alloc (.cells (madeCells z.cells (m * sz)) e), ?_, ?_⟩) hg hd hn (fun b => h b (madeCells z.cells (m * sz)).toList (List.replicate m []) ?_ ?_)
    · unfold Sl at ht
      split at ht
      · rename_i e' hu
        simp only [Bool.and_eq_true, beq_iff_eq] at ht
        obtain ⟨rfl, ht⟩ := ht
        cases hti : g.P.info? e' with
        | none => simp [hti] at ht
        | some ti =>
          have h2 : ti.size = sz := by simpa [hti] using ht
          have h3 : ti.zero = some z := by unfold Zr at hz; simpa [hti] using hz
          have h4 : ti.bytes = by' := by unfold By at hb; simpa [hti] using hb
          have hby : by' ≤ 65536 := by simpa using hsm
          have hr := run_make (P := g.P) w t e' ti z hu hti h3 .i64 .i64 m m (by omega) (by omega) (by
            rw [h4]
            have h5 : by' * m ≤ 65536 * 4294967296 := Nat.mul_le_mul hby (by omega)
            have h6 : ((by' * m : Nat) : Int) ≤ 281474976710656 := by omega
            rw [Int.natCast_mul] at h6
            exact h6) (by omega)
          unfold execOp
          simp only [ho, hf.eval hx, hf.eval hy]
          simp only [Sem.run_bind, hr, h2, Int.toNat_natCast]
          rfl
      · cases ht
    · refine hw.add (Chg.of_none (grownBy_alloc' _ _) _) ?_ (fun x hx => by simp [Ent.row, Value.ownBlock] at hx; omega) (by simp [Ent.row, Value.ownBlock])
      exact World.ownsRow_lit w _ m (Nat.zero_le _) (by unfold maxLen; omega) (by rw [size_madeCells])
    · refine ⟨by simp [size_madeCells], by simp, fun i x hi => ?_⟩
      have him : i < m := by have := (List.getElem?_eq_some_iff.1 hi).1; simpa using this
      rw [madeCells_at hzs hsz him]
      have hx' : x = zx := by
        rw [List.getElem?_replicate] at hi
        simp [him] at hi; exact hi.symm
      have hF : (List.replicate m ([] : List Nat)).getD i [] = [] := by
        simp [List.getD_eq_getElem?_getD, List.getElem?_replicate, him]
      rw [hx', hF]; exact hR
    · simp [List.flatten_replicate_nil]; exact SP.refl _
  · cases hm

/-! ### Reading and writing the elements of a row of one's own -/
theorem row_addr {T sz n : Nat} {v : Value} {cells : List Value} (h : w.ownsRow 0 T sz v n cells) (hn : 0 < n) : ∃ cap cur, v = .slice (some ⟨sb v, 0, none⟩) n cap ∧ w.heap[sb v]? = some (.cells cur T (0, 0)) ∧ cur.toList.take (n * sz) = cells ∧ n * sz ≤ cur.size := by
  rcases h.2 with ⟨_, h0⟩ | ⟨gb, cap, cur, rfl, _, h2, h3, _, h5, h6⟩
  · omega
  · exact ⟨cap, cur, rfl, h2, h6, by rw [h5]; exact Nat.mul_le_mul_right sz h3⟩

theorem q_indexAddrRow {α : Type} {P : Program} {t e sz T j : Nat} {x ix : Operand} {i : Int} {v : Value} {cells : List Value} {xs : List α} {y : α} (ht : Sl P t e sz = true) (hx : opv l x = some v) (hix : opv l ix = some (.int .i64 i))
    (hj : L[j]? = some (Ent.row T sz v xs.length cells)) (hi : idx xs i = some y) : OpQ P (.indexAddr t x ix) l (St w0 Φ L) (.pointer (some ⟨sb v, i.toNat * sz, none⟩)) := fun n a w o ho hf hw => by
  obtain ⟨h0, h1, h2⟩ := idx_some hi
  have hrow : w.ownsRow 0 T sz v xs.length cells := hw.own _ (List.mem_of_getElem? hj)
  obtain ⟨cap, cur, hv, _⟩ := row_addr hrow (by omega)
  unfold Sl at ht
  split at ht
  · rename_i e' hu
    simp only [Bool.and_eq_true, beq_iff_eq] at ht
    obtain ⟨rfl, ht⟩ := ht
    cases hti : P.info? e' with
    | none => simp [hti] at ht
    | some ti =>
      have hsz : ti.size = sz := by simpa [hti] using ht
      have hxv : opv l x = some (.slice (some ⟨sb v, 0, none⟩) xs.length cap) := by rw [hx, ← hv]
      unfold execOp; simp only [ho, hf.eval hxv, hf.eval hix]
      simp [Instr.indexAt, Sem.run_bind, run_underlying hu, asIntOf, h0, h1, sizeOf, typeInfo, hti, hsz, Addr.add_mid]
  · cases ht

theorem St.rgRow {T sz j : Nat} {v : Value} {cells : List Value} {n : Nat} (h : St w0 Φ L w) (hj : L[j]? = some (Ent.row T sz v n cells)) (hn : 0 < n) (o m : Nat) (cs : List Value) (hc : (cells.drop o).take m = cs) : w.rangeAt (sb v) o cs := by
  obtain ⟨cap, cur, _, h2, h3, _⟩ := row_addr (h.own _ (List.mem_of_getElem? hj)) hn
  intro i u hi
  subst hc
  subst h3
  rw [List.getElem?_take] at hi
  split at hi
  · rw [List.getElem?_drop, List.getElem?_take] at hi
    split at hi
    · simp only [World.cell?, h2]; simpa using hi
    · cases hi
  · cases hi

def setL (cs : List Value) (o : Nat) (vs : List Value) : List Value := cs.take o ++ vs ++ cs.drop (o + vs.length)

theorem setMany_toList : ∀ (vs : List Value) (C : Array Value) (o : Nat), o + vs.length ≤ C.size → (setMany C o vs).toList = setL C.toList o vs
  | [], C, o, h => by simp [setMany, setL]
  | v :: vs, C, o, h => by
    rw [setMany, setMany_toList vs _ (o + 1) (by simp at h ⊢; omega)]
    simp only [setL, Array.toList_setIfInBounds]
    have ho : o < C.toList.length := by simp at h ⊢; omega
    have hset : C.toList.set o v = C.toList.take o ++ v :: C.toList.drop (o + 1) := by rw [List.set_eq_take_append_cons_drop, if_pos ho]
    have hl : (C.toList.take o).length = o := by rw [List.length_take]; omega
    have h1 : (C.toList.set o v).take (o + 1) = C.toList.take o ++ [v] := by
      rw [hset, List.take_append, hl, List.take_of_length_le (by omega)]; simp
    have h2 : (C.toList.set o v).drop (o + 1 + vs.length) = C.toList.drop (o + (v :: vs).length) := by
      rw [hset, List.drop_append, hl, List.drop_eq_nil_of_le (by omega)]
      have h3 : o + 1 + vs.length - o = vs.length + 1 := by omega
      rw [h3]
      simp only [List.nil_append, List.drop_succ_cons, List.drop_drop, List.length_cons]
      congr 1; omega
    rw [h1, h2]
    simp

end Go.Proofs.Ytpajhchhkfnieaa.Eng
