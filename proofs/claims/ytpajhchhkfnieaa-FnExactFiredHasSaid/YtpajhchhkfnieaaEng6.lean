/-
  The engine, part 6: stores into rows, literals, append.
  Nothing here names a program.
-/
import Derived.Test.YtpajhchhkfnieaaEng5
namespace Go.Proofs.Ytpajhchhkfnieaa.Eng
open Go.RowKit (Below wrap64)
set_option linter.unusedVariables false
set_option linter.unusedSimpArgs false

variable {g : G} {k : List Item} {ops : Array Oper} {rest : List Oper} {l : Env} {w0 : World} {Φ : Hp} {L : List Ent} {w w' : World} {S : World → Prop}

theorem setL_length {cs vs : List Value} {o : Nat} (h : o + vs.length ≤ cs.length) : (setL cs o vs).length = cs.length := by
  simp [setL]; omega

theorem setL_take {cs vs : List Value} {o N : Nat} (h : o + vs.length ≤ N) (hN : N ≤ cs.length) : (setL cs o vs).take N = setL (cs.take N) o vs := by
  have h1 : (cs.take o).length = o := by rw [List.length_take]; omega
  have h2 : (cs.take o ++ vs).length = o + vs.length := by rw [List.length_append, h1]
  simp only [setL]
  rw [List.take_append, List.take_of_length_le (by omega), h2, List.take_take, Nat.min_eq_left (by omega), List.drop_take]

theorem RC.set {α : Type} {R : Hp → List Nat → List Value → α → Prop} {sz : Nat} {Fs : List (List Nat)} {cells : List Value} {xs : List α} (h : RC R sz Φ Fs cells xs) {i : Nat} (hi : i < xs.length) {F : List Nat} {cs : List Value} {x : α} (hl : cs.length = sz) (hx : R Φ F cs x) :
    RC R sz Φ (Fs.set i F) (setL cells (i * sz) cs) (xs.set i x) := by
  have hle : i * sz + sz ≤ cells.length := by rw [h.len, ← Nat.succ_mul]; exact Nat.mul_le_mul_right sz hi
  refine ⟨by rw [setL_length (by omega), h.len, List.length_set], by simp [h.flen], fun j y hj => ?_⟩
  have htl : (cells.take (i * sz)).length = i * sz := by rw [List.length_take]; omega
  by_cases hij : i = j
  · subst hij
    rw [List.getElem?_set_self hi] at hj
    simp only [Option.some.injEq] at hj
    subst hj
    have hF : (Fs.set i F).getD i [] = F := by
      simp only [List.getD_eq_getElem?_getD]
      rw [List.getElem?_set_self (by rw [h.flen]; exact hi)]; rfl
    rw [hF]
    have : ((setL cells (i * sz) cs).drop (i * sz)).take sz = cs := by
      simp only [setL, List.append_assoc]
      rw [List.drop_append, htl, List.drop_eq_nil_of_le (by omega), Nat.sub_self, List.drop_zero, List.nil_append, List.take_append, List.take_of_length_le (by omega), hl, Nat.sub_self, List.take_zero, List.append_nil]
    rw [this]; exact hx
  · rw [List.getElem?_set_ne hij] at hj
    have hF : (Fs.set i F).getD j [] = Fs.getD j [] := by
      simp only [List.getD_eq_getElem?_getD]
      rw [List.getElem?_set_ne hij]
    rw [hF]
    have h1 := h.el j y hj
    have : ((setL cells (i * sz) cs).drop (j * sz)).take sz = (cells.drop (j * sz)).take sz := by
      apply List.ext_getElem?
      intro m
      rw [List.getElem?_take, List.getElem?_take]
      split
      · rename_i hm
        rw [List.getElem?_drop, List.getElem?_drop]
        simp only [setL, List.append_assoc]
        rcases Nat.lt_or_ge j i with hlt | hge
        · have h2 : j * sz + sz ≤ i * sz := by rw [← Nat.succ_mul]; exact Nat.mul_le_mul_right sz hlt
          rw [List.getElem?_append_left (by omega), List.getElem?_take, if_pos (by omega)]
        · have hlt : i < j := by omega
          have h2 : i * sz + sz ≤ j * sz := by rw [← Nat.succ_mul]; exact Nat.mul_le_mul_right sz hlt
          rw [List.getElem?_append_right (by omega), htl, List.getElem?_append_right (by omega), List.getElem?_drop]
          congr 1; omega
      · rfl
    rw [this]; exact h1

/-- A store into cells of a row of one's own. -/
theorem WL.storeRow {α : Type} {R : Hp → List Nat → List Value → α → Prop} {o : Oper} {t T sz j i : Nat} {x y : Operand} {v u : Value} {cells cs : List Value} {Fs : List (List Nat)} {F : List Nat} {xs : List α} {x' : α} (ho : o.op = .store t x y) (hg : o.guard = none) (hd : o.dst = none)
    (hz : Sz g.P t sz = true) (hx : opv l x = some (.pointer (some ⟨sb v, i * sz, none⟩))) (hy : opv l y = some u) (hj : L[j]? = some (Ent.row T sz v xs.length cells)) (hi : i < xs.length) (hu : u.cells.toList = cs) (hl : cs.length = sz) (h1 : One cs)
    (hrc : RC R sz Φ Fs cells xs) (hR : R Φ F cs x')
    (h : ∀ cells', RC R sz Φ (Fs.set i F) cells' (xs.set i x') → WL g k ops rest l (St w0 Φ (L.set j (Ent.row T sz v (xs.set i x').length cells')))) : WL g k ops (o :: rest) l (St w0 Φ L) := by
  have hrc' := hrc.set hi hl hR
  subst hu
  refine WL.effU (α := Unit) (S' := fun _ => St w0 Φ (L.set j (Ent.row T sz v (xs.set i x').length (setL cells (i * sz) u.cells.toList)))) (fun a w hf hw => ?_) hg hd (fun _ => h _ hrc')
  have hrow : w.ownsRow 0 T sz v xs.length cells := hw.own _ (List.mem_of_getElem? hj)
  have hle : i * sz + sz ≤ xs.length * sz := by rw [← Nat.succ_mul]; exact Nat.mul_le_mul_right sz hi
  rcases hrow.2 with ⟨_, h0⟩ | ⟨gb, cap, cur, rfl, hb0, hg2, hn, hcm, hcs, htake⟩
  · omega
  · have hcap : xs.length * sz ≤ cap * sz := Nat.mul_le_mul_right sz hn
    obtain ⟨w', h2, h3, h4⟩ := run_storeVarMany (P := g.P) (b := gb) (o := i * sz) hz (by simpa using hl) hg2 (by omega) h1
    refine ⟨(), w', ?_, ?_⟩
    · have hx' : opv l x = some (.pointer (some ⟨gb, i * sz, none⟩)) := hx
      unfold execOp
      simp only [ho, hf.eval hx', hf.eval hy]
      simp [Instr.storeAt, Instr.sureAddr, Sem.run_bind, h2]
    · refine hw.upd hj rfl (by simpa [Ent.row, Value.ownBlock] using Chg.of_some h4) ?_ (fun k hk => .inl hk) (by simp [Ent.row, Value.ownBlock])
      have hlen : (setL cells (i * sz) u.cells.toList).length = (xs.set i x').length * sz := hrc'.len
      refine ⟨hlen, .inr ⟨gb, cap, _, by rw [List.length_set], Nat.zero_le _, h3, by rw [List.length_set]; exact hn, hcm, by rw [setMany_size]; exact hcs, ?_⟩⟩
      rw [List.length_set, setMany_toList _ _ _ (by rw [hl, hcs]; omega)]
      subst htake
      exact setL_take (by rw [hl]; omega) (by simp; omega)

/-! ### Literals -/
def Pl (P : Program) (t : Nat) (ps : Array (Nat × Nat)) : Bool :=
  match P.underlying t with
  | some (.struct fs) => (fs.toList.map fun f => (f.offset, ((P.info? f.type).map (·.size)))) == ps.toList.map (fun p => (p.1, some p.2))
  | _ => false

theorem mapM_places {P : Program} {w : World} : ∀ (fs : List Field) (ps : List (Nat × Nat)), (fs.map fun f => (f.offset, (P.info? f.type).map (·.size))) = ps.map (fun p => (p.1, some p.2)) →
    (fs.mapM fun f => (do pure (f.offset, ← sizeOf f.type) : Sem (Nat × Nat))).run P w = .ok ps w
  | [], ps, h => by
    cases ps with
    | nil => rfl
    | cons p ps => cases h
  | f :: fs, ps, h => by
    cases ps with
    | nil => cases h
    | cons p ps =>
      simp only [List.map_cons, List.cons.injEq, Prod.mk.injEq] at h
      obtain ⟨⟨h1, h2⟩, h3⟩ := h
      cases hti : P.info? f.type with
      | none => simp [hti] at h2
      | some ti =>
        have h4 : ti.size = p.2 := by simpa [hti] using h2
        have ih := mapM_places (P := P) (w := w) fs ps h3
        simp only [List.mapM_cons, Sem.run_bind, sizeOf, typeInfo, run_program, Result.andThen_ok, hti, Sem.run_pure]
        simp only [sizeOf, typeInfo] at ih
        rw [ih]
        simp [h1, h4]

theorem q_build {P : Program} {t : Nat} {parts : Array (Nat × Operand)} {ps : Array (Nat × Nat)} {z : Value} {vs : List (Nat × Value)} {C : Array Value} (ht : Pl P t ps = true) (hz : Zr P t z)
    (hv : parts.toList.map (fun p => (p.1, opv l p.2)) = vs.map (fun p => (p.1, some p.2))) (hC : Instr.fill (ps[·]?) z.cells vs = some C) : OpQ P (.build t parts) l S (.agg C) := fun n a w o ho hf hw => by
  unfold Pl at ht
  split at ht
  · rename_i fs hu
    have ht' := mapM_places (P := P) (w := w) fs.toList ps.toList (by simpa using ht)
    unfold Zr at hz
    cases hti : P.info? t with
    | none => simp [hti] at hz
    | some ti =>
      have hzz : ti.zero = some z := by simpa [hti] using hz
      have hparts : (parts.map fun (i, x) => (i, a.eval x)).toList = vs := by
        simp only [Array.toList_map]
        have key : ∀ (qs : List (Nat × Operand)) (us : List (Nat × Value)), qs.map (fun p => (p.1, opv l p.2)) = us.map (fun p => (p.1, some p.2)) → qs.map (fun p => (p.1, a.eval p.2)) = us := by
          intro qs
          induction qs with
          | nil => intro us h; cases us with
            | nil => rfl
            | cons u us => cases h
          | cons q qs ih => intro us h; cases us with
            | nil => cases h
            | cons u us =>
              simp only [List.map_cons, List.cons.injEq, Prod.mk.injEq] at h
              obtain ⟨⟨h1, h2⟩, h3⟩ := h
              simp only [List.map_cons, ih us h3, hf.eval h2, h1]
        exact key _ _ hv
      have hmap : (fs.mapM fun f => (do pure (f.offset, ← sizeOf f.type) : Sem (Nat × Nat))).run P w = .ok ps w := by
        rw [Array.mapM_eq_mapM_toList, Sem.run_map, ht']
        simp
      have hb : (Instr.build t (parts.map fun (i, x) => (i, a.eval x))).run P w = .ok (.agg C) w := by
        unfold Instr.build
        simp only [Sem.run_bind, zeroValue, typeInfo, run_program, Result.andThen_ok, hti, hzz, Sem.run_pure, run_underlying hu]
        rw [hmap]
        simp only [Result.andThen_ok, hparts, hC]
        rfl
      unfold execOp
      simp only [ho]
      simp only [Sem.run_bind, hb]; rfl
  · cases ht

end Go.Proofs.Ytpajhchhkfnieaa.Eng
