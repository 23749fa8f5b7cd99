/-
  The engine, part 2: memory. A heap of frozen blocks (data that nobody writes any more), a list of the blocks that the function owns, and the operations' laws over both.
  Nothing here names a program.
-/
import Derived.Test.YtpajhchhkfnieaaEng1
import Derived.KernelRfl
import Derived.Laws.OwnMore
import Derived.Laws.Tables
namespace Go.Proofs.Ytpajhchhkfnieaa.Eng
open Go.RowKit (Below wrap64)
set_option linter.unusedVariables false
set_option linter.unusedSimpArgs false

/-! ### Frozen heaps -/
abbrev Hp := Nat → Option Obj
def Hle (Φ Φ' : Hp) : Prop := ∀ k o, Φ k = some o → Φ' k = some o
def In (Φ : Hp) (w : World) : Prop := ∀ k o, Φ k = some o → w.heap[k]? = some o

theorem Hle.refl (Φ : Hp) : Hle Φ Φ := fun _ _ h => h
theorem Hle.trans {Φ Φ' Φ'' : Hp} (h : Hle Φ Φ') (h' : Hle Φ' Φ'') : Hle Φ Φ'' := fun k o hk => h' k o (h k o hk)

/-- The cells 'cs' lie in block b from offset o on. -/
def rg (Φ : Hp) (b o : Nat) (cs : List Value) : Prop :=
  ∃ C T fz, Φ b = some (.cells C T fz) ∧ ∀ j v, cs[j]? = some v → C[o + j]? = some v

theorem rg.mono {Φ Φ' : Hp} {b o : Nat} {cs : List Value} (hle : Hle Φ Φ') (h : rg Φ b o cs) : rg Φ' b o cs := by
  obtain ⟨C, T, fz, h1, h2⟩ := h
  exact ⟨C, T, fz, hle _ _ h1, h2⟩

theorem rg.part {Φ : Hp} {b o : Nat} {cs : List Value} (h : rg Φ b o cs) (i n : Nat) : rg Φ b (o + i) ((cs.drop i).take n) := by
  obtain ⟨C, T, fz, h1, h2⟩ := h
  refine ⟨C, T, fz, h1, fun j v hj => ?_⟩
  have := h2 (i + j) v (by
    rw [List.getElem?_take] at hj
    split at hj
    · rw [List.getElem?_drop] at hj; exact hj
    · cases hj)
  rw [← this]; congr 1; omega

theorem rg.of_eq {Φ : Hp} {b o o' : Nat} {cs cs' : List Value} (h : rg Φ b o cs) (i n : Nat) (ho : o' = o + i) (hc : (cs.drop i).take n = cs') : rg Φ b o' cs' := by
  subst ho; subst hc; exact h.part i n

theorem rg.rangeAt {Φ : Hp} {w : World} {b o : Nat} {cs : List Value} (hi : In Φ w) (h : rg Φ b o cs) : w.rangeAt b o cs := by
  obtain ⟨C, T, fz, h1, h2⟩ := h
  intro j v hj
  simp only [World.cell?, hi _ _ h1]
  simpa using h2 j v hj

/-! ### Slices that are read -/
def sb : Value → Nat
  | .slice (some a) _ _ => a.block
  | _ => 0
def so : Value → Nat
  | .slice (some a) _ _ => a.off
  | _ => 0

/-- The slice v reads as xs; each element takes sz cells that read as R says. F: the blocks that the reading meets, in order. -/
structure RSl {α : Type} (R : Hp → List Nat → List Value → α → Prop) (sz : Nat) (Φ : Hp) (F : List Nat) (v : Value) (xs : List α) : Prop where
  form : ∃ a cap, v = .slice a xs.length cap
  addr : xs ≠ [] → ∃ cap, v = .slice (some ⟨sb v, so v, none⟩) xs.length cap
  elems : ∃ Fs : List (List Nat), Fs.length = xs.length ∧ F = v.ownBlock.toList ++ Fs.flatten ∧
    ∀ i x, xs[i]? = some x → ∃ cs, cs.length = sz ∧ rg Φ (sb v) (so v + i * sz) cs ∧ R Φ (Fs.getD i []) cs x

/-- An element's reading: some cells there. -/
def El {α : Type} (R : Hp → List Nat → List Value → α → Prop) (sz : Nat) (Φ : Hp) (v : Value) (i : Nat) (x : α) : Prop :=
  ∃ cs F, cs.length = sz ∧ rg Φ (sb v) (so v + i * sz) cs ∧ R Φ F cs x

theorem RSl.el {α : Type} {R : Hp → List Nat → List Value → α → Prop} {sz : Nat} {Φ : Hp} {F : List Nat} {v : Value} {xs : List α} (h : RSl R sz Φ F v xs) {i : Nat} {x : α} (hi : xs[i]? = some x) :
    ∃ cs F, cs.length = sz ∧ rg Φ (sb v) (so v + i * sz) cs ∧ R Φ F cs x := by
  obtain ⟨Fs, _, _, h3⟩ := h.elems
  obtain ⟨cs, h4, h5, h6⟩ := h3 i x hi
  exact ⟨cs, _, h4, h5, h6⟩

theorem RSl.mono {α : Type} {R : Hp → List Nat → List Value → α → Prop} (hR : ∀ Φ Φ' F cs x, Hle Φ Φ' → R Φ F cs x → R Φ' F cs x) {sz : Nat} {Φ Φ' : Hp} (hle : Hle Φ Φ') {F : List Nat} {v : Value} {xs : List α}
    (h : RSl R sz Φ F v xs) : RSl R sz Φ' F v xs := by
  obtain ⟨Fs, h1, h2, h3⟩ := h.elems
  refine ⟨h.form, h.addr, Fs, h1, h2, fun i x hi => ?_⟩
  obtain ⟨cs, h4, h5, h6⟩ := h3 i x hi
  exact ⟨cs, h4, h5.mono hle, hR _ _ _ _ _ hle h6⟩

/-- An index that is within bounds, and what lies there. -/
def idx {α : Type} (xs : List α) (i : Int) : Option α := if 0 ≤ i then xs[i.toNat]? else none

theorem idx_some {α : Type} {xs : List α} {i : Int} {x : α} (h : idx xs i = some x) : 0 ≤ i ∧ i < xs.length ∧ xs[i.toNat]? = some x := by
  unfold idx at h
  split at h
  · rename_i h0
    have := (List.getElem?_eq_some_iff.1 h).1
    exact ⟨h0, by omega, h⟩
  · cases h

/-! ### What a function owns -/
/-- Outside the blocks of B nothing that was there has turned. -/
structure Chg (B : List Nat) (w w' : World) : Prop where
  os : w'.os = w.os
  tape : w'.tape = w.tape
  output : w'.output = w.output
  size : w.heap.size ≤ w'.heap.size
  block : ∀ k, k < w.heap.size → k ∉ B → w'.heap[k]? = w.heap[k]?

theorem Chg.of_none {w w' : World} (h : w.grownBy w' none) (B : List Nat) : Chg B w w' := ⟨h.os, h.tape, h.output, h.size, fun k hk _ => h.block k hk (by simp)⟩
theorem Chg.of_some {w w' : World} {b : Nat} (h : w.grownBy w' (some b)) : Chg [b] w w' := ⟨h.os, h.tape, h.output, h.size, fun k hk hb => h.block k hk (by simpa using hb)⟩
theorem Chg.of_opt {w w' : World} {b : Option Nat} (h : w.grownBy w' b) : Chg b.toList w w' := ⟨h.os, h.tape, h.output, h.size, fun k hk hb => h.block k hk (by rintro rfl; simp at hb)⟩
theorem Chg.of_below {w w' : World} (h : Below w.heap.size w w') (B : List Nat) : Chg B w w' := ⟨h.os, h.tape, h.output, h.size, fun k hk _ => h.block k hk⟩
theorem Chg.mono {B B' : List Nat} {w w' : World} (h : Chg B w w') (hs : ∀ k ∈ B, k ∈ B') : Chg B' w w' := ⟨h.os, h.tape, h.output, h.size, fun k hk hb => h.block k hk (fun hm => hb (hs k hm))⟩
theorem Chg.trans {B : List Nat} {a b c : World} (h : Chg B a b) (h' : Chg B b c) : Chg B a c :=
  ⟨h'.os.trans h.os, h'.tape.trans h.tape, h'.output.trans h.output, Nat.le_trans h.size h'.size, fun k hk hb => (h'.block k (Nat.lt_of_lt_of_le hk h.size) hb).trans (h.block k hk hb)⟩
theorem Chg.below {B : List Nat} {n : Nat} {w w' : World} (h : Chg B w w') (hn : n ≤ w.heap.size) (hB : ∀ k ∈ B, n ≤ k) : Below n w w' :=
  ⟨h.os, h.tape, h.output, h.size, fun k hk => h.block k (by omega) (fun hm => by have := hB k hm; omega)⟩

structure Ent where
  blks : List Nat
  wr : Bool
  holds : World → Prop
  loc : ∀ w w' : World, w.heap.size ≤ w'.heap.size → (∀ k ∈ blks, w'.heap[k]? = w.heap[k]?) → holds w → holds w'
  lt : ∀ w : World, holds w → ∀ k ∈ blks, k < w.heap.size

/-- A block of its own, known whole. -/
def Ent.obj (b : Nat) (o : Obj) : Ent where
  blks := [b]
  wr := true
  holds w := w.heap[b]? = some o
  loc w w' _ h hw := by rw [h b (by simp)]; exact hw
  lt w hw k hk := by
    simp only [List.mem_singleton] at hk
    subst hk
    exact (Array.getElem?_eq_some_iff.1 hw).1

/-- A slice of its own: nil, or a row that it made. -/
def Ent.row (T sz : Nat) (v : Value) (n : Nat) (xs : List Value) : Ent where
  blks := v.ownBlock.toList
  wr := true
  holds w := w.ownsRow 0 T sz v n xs
  loc w w' _ h hw := by
    obtain ⟨h1, h2⟩ := hw
    refine ⟨h1, ?_⟩
    rcases h2 with h2 | ⟨g, cap, cur, rfl, hb, hg, rest⟩
    · exact .inl h2
    · exact .inr ⟨g, cap, cur, rfl, hb, by rw [h g (by simp [Value.ownBlock])]; exact hg, rest⟩
  lt w hw k hk := (hw.lt k (by simpa using hk)).2

/-- Data that it made, frozen by now: its blocks. -/
def Ent.dat (F : List Nat) : Ent where
  blks := F
  wr := false
  holds w := ∀ k ∈ F, k < w.heap.size
  loc w w' hs _ hw := fun k hk => Nat.lt_of_lt_of_le (hw k hk) hs
  lt w hw := hw

abbrev blksOf (L : List Ent) : List Nat := L.flatMap Ent.blks

structure St (w0 : World) (Φ : Hp) (L : List Ent) (w : World) : Prop where
  bel : Below w0.heap.size w0 w
  fro : In Φ w
  own : ∀ e ∈ L, e.holds w
  new : ∀ e ∈ L, ∀ k ∈ e.blks, w0.heap.size ≤ k ∧ (e.wr = true → Φ k = none)
  nd : (blksOf L).Nodup

theorem grownBy_of_below {w w' : World} (h : Below w.heap.size w w') : w.grownBy w' none :=
  ⟨h.os, h.tape, h.output, h.size, fun k hk _ => h.block k hk⟩

variable {w0 : World} {Φ : Hp} {L : List Ent} {w w' : World}

theorem In.kept (h : In Φ w) (hg : Chg [] w w') : In Φ w' := fun k o hk => by
  have h1 := h k o hk
  rw [hg.block k (Array.getElem?_eq_some_iff.1 h1).1 (by simp)]; exact h1

theorem St.start {w : World} (h : In Φ w) : St w Φ [] w := ⟨Below.refl _ _, h, by simp, by simp, by simp⟩

theorem St.lt (h : St w0 Φ L w) {k : Nat} (hk : k ∈ blksOf L) : k < w.heap.size := by
  obtain ⟨e, he, hb⟩ := List.mem_flatMap.1 hk
  exact e.lt w (h.own e he) k hb

theorem St.kept (h : St w0 Φ L w) (hg : Chg [] w w') : St w0 Φ L w' := by
  refine ⟨h.bel.trans (hg.below h.bel.size (by simp)), h.fro.kept hg, fun e he => ?_, h.new, h.nd⟩
  exact e.loc w w' hg.size (fun k hk => hg.block k (e.lt w (h.own e he) k hk) (by simp)) (h.own e he)

theorem St.call (h : St w0 Φ L w) (hb : Below w.heap.size w w') : St w0 Φ L w' := h.kept (Chg.of_below hb _)

theorem St.drew (h : St w0 Φ L w) : St w0 Φ L w.drew := h.call (Below.refl _ _).drew

theorem St.notin (h : St w0 Φ L w) {k : Nat} (hk : w.heap.size ≤ k) : k ∉ blksOf L := fun hm => by
  have := h.lt hm
  omega

theorem St.out (h : St w0 Φ L w) {k : Nat} (hk : w.heap.size ≤ k) : Φ k = none := by
  cases hp : Φ k with
  | none => rfl
  | some o =>
    have := (Array.getElem?_eq_some_iff.1 (h.fro k o hp)).1
    omega

/-- One entry more, in new blocks. -/
theorem St.add (h : St w0 Φ L w) {e : Ent} (hg : Chg [] w w') (he : e.holds w') (hb : ∀ k ∈ e.blks, w.heap.size ≤ k) (hnd : e.blks.Nodup) : St w0 Φ (e :: L) w' := by
  have h' := h.kept hg
  refine ⟨h'.bel, h'.fro, ?_, ?_, ?_⟩
  · intro x hx
    rcases List.mem_cons.1 hx with rfl | hx
    · exact he
    · exact h'.own x hx
  · intro x hx k hk
    rcases List.mem_cons.1 hx with rfl | hx
    · exact ⟨Nat.le_trans h.bel.size (hb k hk), fun _ => h.out (hb k hk)⟩
    · exact h'.new x hx k hk
  · simp only [blksOf, List.flatMap_cons]
    refine List.nodup_append.2 ⟨hnd, h.nd, fun a ha b hb' hab => ?_⟩
    subst hab
    exact h.notin (hb a ha) hb'

/-- The entries before and behind the one at place i. -/
theorem split_at {i : Nat} {e : Ent} (hi : L[i]? = some e) : L = L.take i ++ e :: L.drop (i + 1) := by
  have hLi : L[i]'(List.getElem?_eq_some_iff.1 hi).1 = e := (List.getElem?_eq_some_iff.1 hi).2
  rw [← hLi, List.getElem_cons_drop, List.take_append_drop]

theorem set_at {i : Nat} {e e' : Ent} (hi : L[i]? = some e) : L.set i e' = L.take i ++ e' :: L.drop (i + 1) := by
  have hilt : i < L.length := (List.getElem?_eq_some_iff.1 hi).1
  rw [List.set_eq_take_append_cons_drop, if_pos hilt]

/-- The entry at place i is another one now: in the same blocks, or in new ones. -/
theorem St.upd (h : St w0 Φ L w) {i : Nat} {e e' : Ent} (hi : L[i]? = some e) (hm : e.wr = true) (hg : Chg e.blks w w') (he : e'.holds w') (hb : ∀ k ∈ e'.blks, k ∈ e.blks ∨ w.heap.size ≤ k) (hn : e'.blks.Nodup) : St w0 Φ (L.set i e') w' := by
  have hmem : e ∈ L := List.mem_of_getElem? hi
  have hsplit := split_at hi
  have hset := set_at (e' := e') hi
  have hnd : (blksOf (L.take i) ++ (e.blks ++ blksOf (L.drop (i + 1)))).Nodup := by
    have := h.nd
    rw [hsplit] at this
    simpa [blksOf, List.flatMap_append, List.flatMap_cons] using this
  have hperm : (e.blks ++ (blksOf (L.take i) ++ blksOf (L.drop (i + 1)))).Nodup := by
    refine (List.Perm.nodup_iff ?_).1 hnd
    rw [← List.append_assoc, ← List.append_assoc]
    exact List.Perm.append_right _ List.perm_append_comm
  have hsub : ∀ x ∈ L.take i ++ L.drop (i + 1), x ∈ L := fun x hx => by
    rcases List.mem_append.1 hx with hx | hx
    · exact List.mem_of_mem_take hx
    · exact List.mem_of_mem_drop hx
  have hin : ∀ x ∈ L.take i ++ L.drop (i + 1), ∀ k ∈ x.blks, k ∈ blksOf (L.take i) ++ blksOf (L.drop (i + 1)) := fun x hx k hk => by
    rcases List.mem_append.1 hx with hx | hx
    · exact List.mem_append.2 (.inl (List.mem_flatMap.2 ⟨x, hx, hk⟩))
    · exact List.mem_append.2 (.inr (List.mem_flatMap.2 ⟨x, hx, hk⟩))
  have hapart : ∀ x ∈ L.take i ++ L.drop (i + 1), ∀ k ∈ x.blks, k ∉ e.blks := fun x hx k hk hke =>
    (List.nodup_append.1 hperm).2.2 k hke k (hin x hx k hk) rfl
  have hkept : ∀ x ∈ L.take i ++ L.drop (i + 1), x.holds w' := fun x hx =>
    x.loc w w' hg.size (fun k hk => hg.block k (x.lt w (h.own x (hsub x hx)) k hk) (hapart x hx k hk)) (h.own x (hsub x hx))
  refine ⟨?_, ?_, ?_, ?_, ?_⟩
  · exact h.bel.trans (hg.below h.bel.size (fun k hk => (h.new e hmem k hk).1))
  · intro k o hk
    have h1 := h.fro k o hk
    rw [hg.block k (Array.getElem?_eq_some_iff.1 h1).1 (fun hc => by
      have := (h.new e hmem k hc).2 hm
      rw [this] at hk; cases hk)]
    exact h1
  · intro x hx
    rw [hset] at hx
    simp only [List.mem_append, List.mem_cons] at hx
    rcases hx with hx | rfl | hx
    · exact hkept x (by simp [hx])
    · exact he
    · exact hkept x (by simp [hx])
  · intro x hx k hk
    rw [hset] at hx
    simp only [List.mem_append, List.mem_cons] at hx
    rcases hx with hx | rfl | hx
    · exact h.new x (hsub x (by simp [hx])) k hk
    · rcases hb k hk with hb | hb
      · exact ⟨(h.new e hmem k hb).1, fun _ => (h.new e hmem k hb).2 hm⟩
      · exact ⟨Nat.le_trans h.bel.size hb, fun _ => h.out hb⟩
    · exact h.new x (hsub x (by simp [hx])) k hk
  · rw [hset]
    have h0 : (e'.blks ++ (blksOf (L.take i) ++ blksOf (L.drop (i + 1)))).Nodup := by
      refine List.nodup_append.2 ⟨hn, (List.nodup_append.1 hperm).2.1, fun a ha b hb' hab => ?_⟩
      subst hab
      rcases hb a ha with h1 | h1
      · exact (List.nodup_append.1 hperm).2.2 a h1 a hb' rfl
      · refine h.notin h1 ?_
        rw [hsplit]
        simp only [blksOf, List.flatMap_append, List.flatMap_cons, List.mem_append] at hb' ⊢
        rcases hb' with hb' | hb'
        · exact .inl hb'
        · exact .inr (.inr hb')
    have : (blksOf (L.take i) ++ (e'.blks ++ blksOf (L.drop (i + 1)))).Nodup := by
      refine (List.Perm.nodup_iff ?_).1 h0
      rw [← List.append_assoc, ← List.append_assoc]
      exact List.Perm.append_right _ List.perm_append_comm
    simpa [blksOf, List.flatMap_append, List.flatMap_cons] using this

theorem blksOf_sublist {L' L : List Ent} (h : L'.Sublist L) : (blksOf L').Sublist (blksOf L) := by
  induction h with
  | slnil => exact List.Sublist.refl _
  | cons a _ ih => rw [blksOf, blksOf, List.flatMap_cons]; exact ih.trans (List.sublist_append_right _ _)
  | cons_cons a _ ih => rw [blksOf, blksOf, List.flatMap_cons, List.flatMap_cons]; exact (List.Sublist.refl _).append ih

/-- Fewer entries. -/
theorem St.less {L' : List Ent} (h : St w0 Φ L w) (hs : L'.Sublist L) : St w0 Φ L' w :=
  ⟨h.bel, h.fro, fun e he => h.own e (hs.subset he), fun e he => h.new e (hs.subset he), (blksOf_sublist hs).nodup h.nd⟩

theorem St.drop (n : Nat) (h : St w0 Φ L w) : St w0 Φ (L.drop n) w := h.less (List.drop_sublist n L)

/-- The same entries in another order. -/
theorem St.perm {L' : List Ent} (h : St w0 Φ L w) (hp : L.Perm L') : St w0 Φ L' w :=
  ⟨h.bel, h.fro, fun e he => h.own e (hp.mem_iff.2 he), fun e he => h.new e (hp.mem_iff.2 he), (hp.flatMap_right _).nodup_iff.1 h.nd⟩

/-- A greater frozen heap, the new part of it new. -/
theorem St.more {Φ' : Hp} {n : Nat} (h : St w0 Φ L w) (hn : ∀ e ∈ L, ∀ k ∈ e.blks, k < n) (hin : In Φ' w) (hle : ∀ k, k < n → Φ' k = Φ k) : St w0 Φ' L w :=
  ⟨h.bel, hin, h.own, fun e he k hk => ⟨(h.new e he k hk).1, fun hm => by rw [hle k (hn e he k hk)]; exact (h.new e he k hk).2 hm⟩, h.nd⟩

/-! ### Reading -/
theorem St.rgL (h : St w0 Φ L w) {i b : Nat} {C : Array Value} {T : Nat} {fz : Nat × Nat} (hi : L[i]? = some (Ent.obj b (.cells C T fz))) (o n : Nat) (cs : List Value) (hc : (C.toList.drop o).take n = cs) : w.rangeAt b o cs := by
  have hh : w.heap[b]? = some (.cells C T fz) := h.own _ (List.mem_of_getElem? hi)
  intro j v hj
  subst hc
  rw [List.getElem?_take] at hj
  split at hj
  · rw [List.getElem?_drop] at hj
    simp only [World.cell?, hh]
    simpa using hj
  · cases hj

theorem cell_of_rangeAt {b o : Nat} {v : Value} (h : w.rangeAt b o [v]) : w.cell? ⟨b, o, none⟩ = some v := by simpa using h 0 v rfl

/-! ### Closed facts on types and functions -/
def T1 (P : Program) (t : TypeId) : Bool := match P.underlying t with | some (.struct _) => false | some (.array _ _) => false | some _ => true | none => false
def Tn (P : Program) (t n : Nat) : Bool := match P.underlying t with | some (.struct _) => (P.info? t).map (·.size) == some n | _ => false
def Fld (P : Program) (t i off : Nat) : Bool :=
  match P.underlying t with
  | some (.struct fs) => match fs[i]? with
    | some f => f.offset == off && match P.info? f.type with | some i => Nat.blt 0 i.size | none => false
    | none => false
  | _ => false
def Sl (P : Program) (t e sz : Nat) : Bool := match P.underlying t with | some (.slice e') => e' == e && (P.info? e).map (·.size) == some sz | _ => false
def Str (P : Program) (t : Nat) : Bool := match P.underlying t with | some .string => true | _ => false
def Fun (P : Program) (f : Nat) : Bool := match P.funcs[f]? with | some fn => fn.body.isSome && !(fn.name == "runtime.NumGoroutine") | none => false
def Sz (P : Program) (t n : Nat) : Bool := (P.info? t).map (·.size) == some n

/-! ### Operations that leave the world -/
section quiet
variable {P : Program} {l : Env} {S : World → Prop}

theorem q_move {x : Operand} {v : Value} (h : opv l x = some v) : OpQ P (.move x) l S v := fun n a w o ho hf hw => by
  unfold execOp; simp only [ho, hf.eval h]; rfl
theorem q_assign {x : Operand} {v : Value} (h : opv l x = some v) : OpQ P (.assign x) l S v := fun n a w o ho hf hw => by
  unfold execOp; simp only [ho, hf.eval h]; rfl
theorem q_pick {c x y : Operand} {t : Bool} {u v : Value} (hc : opv l c = some (.bool t)) (hx : opv l x = some u) (hy : opv l y = some v) : OpQ P (.pick c x y) l S (if t then u else v) := fun n a w o ho hf hw => by
  unfold execOp; simp only [ho, hf.eval hc, hf.eval hx, hf.eval hy]; cases t <;> rfl
theorem q_pick1 {c x y : Operand} {u : Value} (hc : opv l c = some (.bool true)) (hx : opv l x = some u) : OpQ P (.pick c x y) l S u := fun n a w o ho hf hw => by
  unfold execOp; simp only [ho, hf.eval hc, hf.eval hx]; rfl
theorem q_pick0 {c x y : Operand} {u : Value} (hc : opv l c = some (.bool false)) (hx : opv l y = some u) : OpQ P (.pick c x y) l S u := fun n a w o ho hf hw => by
  unfold execOp; simp only [ho, hf.eval hc, hf.eval hx]; rfl

theorem q_cmp {op : BinOp} {x y : Operand} {t u : TypeId} {k : IntKind} {i j : Int} {v : Value} (hx : opv l x = some (.int k i)) (hy : opv l y = some (.int k j))
    (hv : ∀ w, (do eqGuard op t x y (.int k i) (.int k j); binOp op t (.int k i) (.int k j) : Sem Value).run P w = .ok v w) : OpQ P (.binOp op t x y u) l S v := fun n a w o ho hf hw => by
  unfold execOp; simp only [ho, hf.eval hx, hf.eval hy]
  simp only [Sem.run_bind, hv w]; rfl

theorem q_lss {x y : Operand} {t u : TypeId} {k : IntKind} {i j : Int} (hx : opv l x = some (.int k i)) (hy : opv l y = some (.int k j)) : OpQ P (.binOp .lss t x y u) l S (.bool (decide (i < j))) :=
  q_cmp hx hy fun w => by simp [eqGuard, binOp, Op.intCmp]
theorem q_leq {x y : Operand} {t u : TypeId} {k : IntKind} {i j : Int} (hx : opv l x = some (.int k i)) (hy : opv l y = some (.int k j)) : OpQ P (.binOp .leq t x y u) l S (.bool (decide (i ≤ j))) :=
  q_cmp hx hy fun w => by simp [eqGuard, binOp, Op.intCmp]
theorem q_gtr {x y : Operand} {t u : TypeId} {k : IntKind} {i j : Int} (hx : opv l x = some (.int k i)) (hy : opv l y = some (.int k j)) : OpQ P (.binOp .gtr t x y u) l S (.bool (decide (j < i))) :=
  q_cmp hx hy fun w => by simp [eqGuard, binOp, Op.intCmp]
theorem q_geq {x y : Operand} {t u : TypeId} {k : IntKind} {i j : Int} (hx : opv l x = some (.int k i)) (hy : opv l y = some (.int k j)) : OpQ P (.binOp .geq t x y u) l S (.bool (decide (j ≤ i))) :=
  q_cmp hx hy fun w => by simp [eqGuard, binOp, Op.intCmp]
theorem q_eql {x y : Operand} {t u : TypeId} {k : IntKind} {i j : Int} (hx : opv l x = some (.int k i)) (hy : opv l y = some (.int k j)) : OpQ P (.binOp .eql t x y u) l S (.bool (decide (i = j))) :=
  q_cmp hx hy fun w => by simp [eqGuard, binOp, Op.intCmp]; rfl
theorem q_neq {x y : Operand} {t u : TypeId} {k : IntKind} {i j : Int} (hx : opv l x = some (.int k i)) (hy : opv l y = some (.int k j)) : OpQ P (.binOp .neq t x y u) l S (.bool (!decide (i = j))) :=
  q_cmp hx hy fun w => by simp [eqGuard, binOp, Op.intCmp]; rfl

theorem q_add {x y : Operand} {t u : TypeId} {k : IntKind} {i j : Int} (hx : opv l x = some (.int k i)) (hy : opv l y = some (.int k j)) : OpQ P (.binOp .add t x y u) l S (.int k (k.wrap (i + j))) :=
  q_cmp hx hy fun w => by simp [eqGuard, binOp, Op.intArith]
theorem q_sub {x y : Operand} {t u : TypeId} {k : IntKind} {i j : Int} (hx : opv l x = some (.int k i)) (hy : opv l y = some (.int k j)) : OpQ P (.binOp .sub t x y u) l S (.int k (k.wrap (i - j))) :=
  q_cmp hx hy fun w => by simp [eqGuard, binOp, Op.intArith]
theorem q_mul {x y : Operand} {t u : TypeId} {k : IntKind} {i j : Int} (hx : opv l x = some (.int k i)) (hy : opv l y = some (.int k j)) : OpQ P (.binOp .mul t x y u) l S (.int k (k.wrap (i * j))) :=
  q_cmp hx hy fun w => by simp [eqGuard, binOp, Op.intArith]

theorem q_not {t : TypeId} {x : Operand} {b : Bool} (hx : opv l x = some (.bool b)) : OpQ P (.unOp .not t x) l S (.bool (!b)) := fun n a w o ho hf hw => by
  unfold execOp; simp only [ho, hf.eval hx]; rfl
theorem q_neg {t : TypeId} {x : Operand} {k : IntKind} {i : Int} (hx : opv l x = some (.int k i)) : OpQ P (.unOp .neg t x) l S (.int k (k.wrap (0 - i))) := fun n a w o ho hf hw => by
  unfold execOp; simp only [ho, hf.eval hx]; rfl

/-- Two strings are one. -/
def seq (x y : ByteArray) : Bool := x.toList == y.toList

theorem q_seq {x y : Operand} {t u : TypeId} {i j : ByteArray} (hx : opv l x = some (.string i)) (hy : opv l y = some (.string j)) : OpQ P (.binOp .eql t x y u) l S (.bool (seq i j)) := fun n a w o ho hf hw => by
  unfold execOp; simp only [ho, hf.eval hx, hf.eval hy]
  simp [eqGuard, binOp, Op.stringOp, seq]
theorem q_sne {x y : Operand} {t u : TypeId} {i j : ByteArray} (hx : opv l x = some (.string i)) (hy : opv l y = some (.string j)) : OpQ P (.binOp .neq t x y u) l S (.bool (!seq i j)) := fun n a w o ho hf hw => by
  unfold execOp; simp only [ho, hf.eval hx, hf.eval hy]
  simp [eqGuard, binOp, Op.stringOp, seq]

theorem q_lenS {t : TypeId} {args : Array Operand} {x : Operand} {s : ByteArray} (ht : Str P t = true) (ha : args = #[x]) (hx : opv l x = some (.string s)) :
    OpQ P (.call ⟨.builtin .len, args, #[t]⟩) l S (.int .i64 s.size) := fun n a w o ho hf hw => by
  have hu : P.underlying t = some .string := by unfold Str at ht; split at ht <;> simp_all
  unfold execOp; simp only [ho, ha, resolve]
  simp [invoke, builtin, Builtin.len_, hf.eval hx, Sem.run_bind, run_underlying hu, goInt]

theorem q_len {t e sz : TypeId} {args : Array Operand} {x : Operand} {p : Option Addr} {m c : Nat} (ht : Sl P t e sz = true) (ha : args = #[x]) (hx : opv l x = some (.slice p m c)) :
    OpQ P (.call ⟨.builtin .len, args, #[t]⟩) l S (.int .i64 m) := fun n a w o ho hf hw => by
  have hu : ∃ e, P.underlying t = some (.slice e) := by unfold Sl at ht; split at ht <;> simp_all
  obtain ⟨e', hu⟩ := hu
  unfold execOp; simp only [ho, ha, resolve]
  simp [invoke, builtin, Builtin.len_, hf.eval hx, Sem.run_bind, run_underlying hu, goInt]

theorem q_lenR {α : Type} {R : Hp → List Nat → List Value → α → Prop} {sz : Nat} {Φ : Hp} {F : List Nat} {v : Value} {xs : List α} {t e sz' : TypeId} {args : Array Operand} {x : Operand}
    (ht : Sl P t e sz' = true) (ha : args = #[x]) (hx : opv l x = some v) (hv : RSl R sz Φ F v xs) : OpQ P (.call ⟨.builtin .len, args, #[t]⟩) l S (.int .i64 xs.length) := by
  obtain ⟨p, c, hp⟩ := hv.form
  exact q_len ht ha (by rw [hx, hp])

theorem q_fieldAddr {t i off : Nat} {x : Operand} {b o : Nat} (ht : Fld P t i off = true) (hx : opv l x = some (.pointer (some ⟨b, o, none⟩))) : OpQ P (.fieldAddr t x i) l S (.pointer (some ⟨b, o + off, none⟩)) := fun n a w op ho hf hw => by
  unfold Fld at ht
  split at ht
  · rename_i fs hu
    split at ht
    · rename_i f hfi
      simp only [Bool.and_eq_true, beq_iff_eq] at ht
      obtain ⟨h1, h2⟩ := ht
      split at h2
      · rename_i ti hti
        have h2' : ti.size ≠ 0 := by simp at h2; omega
        unfold execOp; simp only [ho, hf.eval hx]
        simp [Instr.fieldAt, Sem.run_bind, run_underlying hu, hfi, Instr.sureAddr, fieldPlace, sizeOf, typeInfo, hti, h2', ← h1, Addr.add_mid]
      · cases h2
    · cases ht
  · cases ht

theorem q_indexAddr {α : Type} {R : Hp → List Nat → List Value → α → Prop} {sz : Nat} {Φ : Hp} {F : List Nat} {v : Value} {xs : List α} {t e : TypeId} {x ix : Operand} {i : Int} {y : α}
    (ht : Sl P t e sz = true) (hx : opv l x = some v) (hix : opv l ix = some (.int .i64 i)) (hv : RSl R sz Φ F v xs) (hi : idx xs i = some y) :
    OpQ P (.indexAddr t x ix) l S (.pointer (some ⟨sb v, so v + i.toNat * sz, none⟩)) := fun n a w o ho hf hw => by
  obtain ⟨h0, h1, h2⟩ := idx_some hi
  obtain ⟨c, hc⟩ := hv.addr (by rintro rfl; simp at h2)
  unfold Sl at ht
  split at ht
  · rename_i e' hu
    simp only [Bool.and_eq_true, beq_iff_eq] at ht
    obtain ⟨rfl, ht⟩ := ht
    cases hti : P.info? e' with
    | none => simp [hti] at ht
    | some ti =>
      have hsz : ti.size = sz := by simpa [hti] using ht
      have hxv : opv l x = some (.slice (some ⟨sb v, so v, none⟩) xs.length c) := by rw [hx, ← hc]
      unfold execOp; simp only [ho, hf.eval hxv, hf.eval hix]
      simp [Instr.indexAt, Sem.run_bind, run_underlying hu, asIntOf, h0, h1, sizeOf, typeInfo, hti, hsz, Addr.add_mid]
  · cases ht

theorem run_isAgg1 {t : TypeId} (ht : T1 P t = true) (w : World) : (isAgg t).run P w = .ok false w := by
  unfold T1 at ht
  split at ht
  · cases ht
  · cases ht
  · rename_i d h1 h2 hu
    unfold isAgg
    rw [Sem.run_bind, run_underlying hu w]
    cases d <;> simp_all
  · cases ht

theorem q_load1 {t : TypeId} {x : Operand} {b o : Nat} {v : Value} (ht : T1 P t = true) (hx : opv l x = some (.pointer (some ⟨b, o, none⟩))) (hr : ∀ w, S w → w.rangeAt b o [v]) : OpQ P (.load t x) l S v := fun n a w op ho hf hw => by
  unfold execOp; simp only [ho, hf.eval hx]
  simp [Instr.loadAt, Instr.sureAddr, loadVar, Sem.run_bind, run_isAgg1 ht, cell_of_rangeAt (hr w hw)]

theorem q_loadN {t n : TypeId} {x : Operand} {b o : Nat} {cs : List Value} (ht : Tn P t n = true) (hx : opv l x = some (.pointer (some ⟨b, o, none⟩))) (hr : ∀ w, S w → w.rangeAt b o cs) (hn : cs.length = n) : OpQ P (.load t x) l S (.agg cs.toArray) := fun m a w op ho hf hw => by
  unfold Tn at ht
  split at ht
  · rename_i fs hu
    unfold execOp; simp only [ho, hf.eval hx]
    simp only [Sem.run_bind, run_loadAt_mid w b o t cs _ (hr w hw) hu rfl (by rw [hn]; simpa using ht)]; rfl
  · cases ht

theorem rv_cell {t n : TypeId} {p : Tmp} {b o : Nat} {cs : List Value} (ht : Tn P t n = true) (hx : lk l p = some (.pointer (some ⟨b, o, none⟩))) (hr : ∀ w, S w → w.rangeAt b o cs) (hn : cs.length = n) : rvOk P (.cell p t) l S (.agg cs.toArray) := by
  unfold Tn at ht
  split at ht
  · rename_i fs hu
    exact ⟨⟨b, o, none⟩, hx, fun w hw => run_loadVar_mid w b o t cs _ (hr w hw) hu rfl (by rw [hn]; simpa using ht)⟩
  · cases ht

theorem q_extract {x : Operand} {i : Nat} {vs : Array Value} {v : Value} (hx : opv l x = some (.tuple vs)) (hv : vs[i]? = some v) : OpQ P (.extract x i) l S v := fun n a w op ho hf hw => by
  unfold execOp; simp only [ho, hf.eval hx]
  simp [Instr.extract, hv]

theorem q_indexS {t : TypeId} {x ix : Operand} {s : ByteArray} {i : Int} {c : UInt8} (ht : Str P t = true) (hx : opv l x = some (.string s)) (hix : opv l ix = some (.int .i64 i)) (hi : idx s.data.toList i = some c) :
    OpQ P (.index t x ix) l S (.int .u8 c.toNat) := fun n a w o ho hf hw => by
  obtain ⟨h0, h1, h2⟩ := idx_some hi
  have hu : P.underlying t = some .string := by unfold Str at ht; split at ht <;> simp_all
  unfold execOp; simp only [ho, hf.eval hx, hf.eval hix]
  have hlt : i.toNat < s.size := by
    have h5 := (List.getElem?_eq_some_iff.1 h2).1
    rw [Array.length_toList] at h5
    exact h5
  have h3 : s[i.toNat]? = some c := by
    rw [getElem?_pos s i.toNat hlt]
    obtain ⟨_, h4⟩ := List.getElem?_eq_some_iff.1 h2
    rw [← h4]
    rfl
  simp [Instr.index, Sem.run_bind, run_underlying hu, asIntOf, h0, h3]

end quiet
end Go.Proofs.Ytpajhchhkfnieaa.Eng
