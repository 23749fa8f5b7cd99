/-
  The engine, part 7: slice literals and append.
  Nothing here names a program.
-/
import Derived.Test.YtpajhchhkfnieaaEng6
namespace Go.Proofs.Ytpajhchhkfnieaa.Eng
open Go.RowKit (Below wrap64)
set_option linter.unusedVariables false
set_option linter.unusedSimpArgs false

variable {g : G} {k : List Item} {ops : Array Oper} {rest : List Oper} {l : Env} {w0 : World} {Φ : Hp} {L : List Ent} {w w' : World} {S : World → Prop}

/-- The element type's row of the table: its zero value, its cells, its bytes. -/
def Ei (P : Program) (e : Nat) (z : Value) (sz by' : Nat) : Prop := (P.info? e).map (fun i => (i.zero, i.size, i.bytes)) = some (some z, sz, by')

theorem Ei.info {P : Program} {e sz by' : Nat} {z : Value} (h : Ei P e z sz by') : ∃ i, P.info? e = some i ∧ i.zero = some z ∧ i.size = sz ∧ i.bytes = by' := by
  unfold Ei at h
  cases hti : P.info? e with
  | none => simp [hti] at h
  | some i =>
    simp only [hti, Option.map_some, Option.some.injEq, Prod.mk.injEq] at h
    exact ⟨i, rfl, h.1, h.2.1, h.2.2⟩

theorem Sl_und {P : Program} {t e sz : Nat} (h : Sl P t e sz = true) : P.underlying t = some (.slice e) := by
  unfold Sl at h
  split at h
  · rename_i e' hu
    simp only [Bool.and_eq_true, beq_iff_eq] at h
    rw [hu, h.1]
  · cases h

/-- Where the appended cells come from: a slice of which they are the cells; or nothing is appended. -/
def Src (w : World) (u : Value) (m sz : Nat) (news : List Value) : Prop :=
  news.length = m * sz ∧ ((∃ c, u = .slice none 0 c ∧ m = 0) ∨ ∃ a c, u = .slice (some a) m c ∧ ∀ j x, news[j]? = some x → w.cell? (a.add j) = some x)

theorem run_append_none_c {P : Program} {w : World} (base : Nat) (t ty e : TypeId) (i : TypeInfo) (size c : Nat) (ht : P.underlying t = some (.slice e)) (hi : P.info? e = some i)
    (v : Value) (n : Nat) (xs : List Value) (hown : w.ownsRow base e size v n xs) :
    (Builtin.append_ #[t, t] ty #[v, .slice none 0 c]).run P w = .ok v w := by
  rcases hown.2 with ⟨rfl, rfl⟩ | ⟨g, cap, cur, rfl, _, _, hnc, _⟩
  · simp [Builtin.append_, run_underlying ht, sizeOf, typeInfo, hi, Builtin.lenOf, Builtin.firstCells]
  · simp [Builtin.append_, run_underlying ht, sizeOf, typeInfo, hi, Builtin.lenOf, Builtin.firstCells, hnc, storeCells]

theorem run_append_row {P : Program} {t ty e sz by' T m n : Nat} {z v u : Value} {cells news : List Value} (ht : Sl P t e sz = true) (he : Ei P e z sz by') (hT : T = e) (hzs : z.cells.size = sz) (hs0 : 0 < sz) (h1 : ∀ x ∈ news, x.oneCell' = true)
    (hrow : w.ownsRow 0 T sz v n cells) (hsrc : Src w u m sz news) (hb : by' ≤ 32768) (hbd : n + m ≤ 4294967296) :
    ∃ v' w', (Builtin.append_ #[t, t] ty #[v, u]).run P w = .ok v' w' ∧ w'.ownsRow 0 T sz v' (n + m) (cells ++ news) ∧ Chg v.ownBlock.toList w w' ∧ (∀ x ∈ v'.ownBlock.toList, x ∈ v.ownBlock.toList ∨ w.heap.size ≤ x) := by
  obtain ⟨i, hi, hz, hsz, hby⟩ := he.info
  subst hT
  have hu := Sl_und ht
  have hmax : n + m ≤ maxLen := by unfold maxLen; omega
  have hbytes : (n + m) * by' ≤ 140737488355328 := by
    have := Nat.mul_le_mul hbd hb
    omega
  obtain ⟨hl, hsrc⟩ := hsrc
  have hup : ∀ {b : Nat} {w' : World} {v' : Value} {n' : Nat} {xs : List Value}, w'.ownsRow b T sz v' n' xs → w'.ownsRow 0 T sz v' n' xs := fun h => by
    obtain ⟨h1, h2⟩ := h
    refine ⟨h1, ?_⟩
    rcases h2 with h2 | ⟨gb, cap, cur, h3, h4, h5⟩
    · exact .inl h2
    · exact .inr ⟨gb, cap, cur, h3, Nat.zero_le _, h5⟩
  rcases hsrc with ⟨c, rfl, rfl⟩ | ⟨a, c, rfl, hnews⟩
  · have hn0 : news = [] := List.eq_nil_of_length_eq_zero (by simpa using hl)
    subst hn0
    refine ⟨v, w, run_append_none_c (P := P) 0 t ty T i sz c hu hi v n cells hrow, by simpa using hrow, Chg.of_none ⟨rfl, rfl, rfl, Nat.le_refl _, fun _ _ _ => rfl⟩ _, fun x hx => .inl hx⟩
  · rcases hrow.2 with ⟨rfl, rfl⟩ | ⟨gb, cap, cur, rfl, hb0, hg, hnc, hcm, hcs, htake⟩
    · have hc0 : cells = [] := List.eq_nil_of_length_eq_zero (by simpa using hrow.1)
      subst hc0
      obtain ⟨v', w', r1, r2, r3, _⟩ := run_append_own (P := P) w w.heap.size t ty T i z sz by' hu hi hz hsz hby hzs hs0 (.slice none 0 0) 0 [] (World.ownsRow_nil w _ T sz) a m c news hl hnews h1 hmax hbytes (Nat.le_refl _)
      refine ⟨v', w', r1, hup r2, Chg.of_opt r3, fun x hx => .inr ?_⟩
      exact (r2.lt x (by simpa using hx)).1
    · by_cases hroom : n + m ≤ cap
      · obtain ⟨w', r1, r2, r3⟩ := run_append_fits (P := P) w 0 t ty T i sz hu hi hsz gb n cap cells hrow a m c news hl hnews h1 hroom
        exact ⟨_, w', r1, r2, Chg.of_some r3, fun x hx => .inl (by simpa [Value.ownBlock] using hx)⟩
      · have hcl : cells.length = n * sz := hrow.1
        obtain ⟨v', w', r1, r2, r3⟩ := run_append_arg_grows (P := P) w t ty T i z sz by' hu hi hz hsz hby hzs hs0 ⟨gb, 0, none⟩ n cap cells hcl (fun j x hj => by
          rw [Addr.add_mid]
          rw [← htake, List.getElem?_take] at hj
          split at hj
          · simp only [World.cell?, hg, Nat.zero_add]; simpa using hj
          · cases hj) a m c news hl hnews (by omega) hmax hbytes
        refine ⟨v', w', r1, hup r2, Chg.of_none r3 _, fun x hx => .inr ?_⟩
        exact (r2.lt x (by simpa using hx)).1

/-- What append does to a list; no more than so many elements. -/
def app {α : Type} (xs ys : List α) : Option (List α) := if xs.length + ys.length ≤ 4294967296 then some (xs ++ ys) else none

theorem app_some {α : Type} {xs ys zs : List α} (h : app xs ys = some zs) : xs.length + ys.length ≤ 4294967296 ∧ zs = xs ++ ys := by
  unfold app at h
  split at h
  · simp only [Option.some.injEq] at h; exact ⟨by assumption, h.symm⟩
  · cases h

theorem ap_run {P : Program} {t : Nat} {s x : Operand} {a : Act} {o : Oper} {v u v' : Value} (ho : o.op = .call ⟨.builtin .append, #[s, x], #[t, t]⟩) (hs : a.eval s = v) (hx : a.eval x = u)
    (hr : ∀ ty, (Builtin.append_ #[t, t] ty #[v, u]).run P w = .ok v' w') : (execOp a.eval o).run P w = .ok (.value v') w' := by
  unfold execOp
  simp only [ho, resolve]
  simp [invoke, builtin, Sem.run_bind, hs, hx, hr]

theorem run_append_ty {P : Program} {t ty ty' : Nat} {v u : Value} : (Builtin.append_ #[t, t] ty #[v, u]).run P w = (Builtin.append_ #[t, t] ty' #[v, u]).run P w := rfl

/-- append, onto a row of one's own. -/
theorem e_append {t e sz by' T n m j : Nat} {s x : Operand} {z v u : Value} {cells news : List Value} {o : Oper} (ho : o.op = .call ⟨.builtin .append, #[s, x], #[t, t]⟩)
    (ht : Sl g.P t e sz = true) (he : Ei g.P e z sz by') (hT : T = e) (hzs : z.cells.size = sz) (hs0 : Nat.blt 0 sz = true) (hb : Nat.ble by' 32768 = true)
    (hs : opv l s = some v) (hx : opv l x = some u) (hj : L[j]? = some (Ent.row T sz v n cells)) (h1 : ∀ x ∈ news, x.oneCell' = true) (hsrc : ∀ w, St w0 Φ L w → Src w u m sz news) (hbd : n + m ≤ 4294967296) :
    ∀ (a : Act) (w : World), Fr g.n l a → St w0 Φ L w → ∃ (v' : Value) (w' : World), (execOp a.eval o).run g.P w = .ok (.value v') w' ∧ St w0 Φ (L.set j (Ent.row T sz v' (n + m) (cells ++ news))) w' := fun a w hf hw => by
  have hrow : w.ownsRow 0 T sz v n cells := hw.own _ (List.mem_of_getElem? hj)
  obtain ⟨v', w', r1, r2, r3, r4⟩ := run_append_row (P := g.P) (ty := 0) ht he hT hzs (by simpa using hs0) h1 hrow (hsrc w hw) (by simpa using hb) hbd
  refine ⟨v', w', ap_run ho (hf.eval hs) (hf.eval hx) (fun ty => by rw [run_append_ty (ty' := 0)]; exact r1), hw.upd hj rfl r3 r2 r4 ?_⟩
  cases hv : v'.ownBlock <;> simp [Ent.row, hv]

/-- One element of a row is the source. -/
theorem src_row {T sz n j : Nat} {u : Value} {news : List Value} (hj : L[j]? = some (Ent.row T sz u n news)) : ∀ w, St w0 Φ L w → Src w u n sz news := fun w hw => by
  have hrow : w.ownsRow 0 T sz u n news := hw.own _ (List.mem_of_getElem? hj)
  refine ⟨hrow.1, ?_⟩
  rcases hrow.2 with ⟨h1, h2⟩ | ⟨gb, cap, cur, h1, _, hg, _, _, _, htake⟩
  · exact .inl ⟨0, h1, h2⟩
  · refine .inr ⟨⟨gb, 0, none⟩, cap, h1, fun i x hi => ?_⟩
    rw [Addr.add_mid]
    rw [← htake, List.getElem?_take] at hi
    split at hi
    · simp only [World.cell?, hg, Nat.zero_add]; simpa using hi
    · cases hi

/-- A slice that is read is the source: its cells. -/
theorem src_rsl {α : Type} {R : Hp → List Nat → List Value → α → Prop} {sz : Nat} {F : List Nat} {u : Value} {ys : List α} (h : RSl R sz Φ F u ys) (h1 : ∀ Φ F cs x, R Φ F cs x → ∀ v ∈ cs, v.oneCell' = true) :
    ∃ Gs news, RC R sz Φ Gs news ys ∧ F = u.ownBlock.toList ++ Gs.flatten ∧ (∀ x ∈ news, x.oneCell' = true) ∧ ∀ w, In Φ w → Src w u ys.length sz news := by
  obtain ⟨Gs, hg1, hg2, hg3⟩ := h.elems
  have key : ∀ (n : Nat), n ≤ ys.length → ∃ news : List Value, news.length = n * sz ∧ (∀ i x, i < n → ys[i]? = some x → R Φ (Gs.getD i []) ((news.drop (i * sz)).take sz) x) ∧ (∀ x ∈ news, x.oneCell' = true) ∧ (0 < n → rg Φ (sb u) (so u) news) := by
    intro n
    induction n with
    | zero => intro _; exact ⟨[], by simp, fun i x hi => by omega, by simp, fun h => by omega⟩
    | succ n ih =>
      intro hn
      obtain ⟨news, h2, h3, h4, h5⟩ := ih (by omega)
      obtain ⟨cs, h6, h7, h8⟩ := hg3 n ys[n] (List.getElem?_eq_getElem (by omega))
      refine ⟨news ++ cs, by simp [h2, h6, Nat.add_mul], fun i x hi hx => ?_, fun x hx => ?_, fun _ => ?_⟩
      · rcases Nat.lt_or_ge i n with hlt | hge
        · have hle : i * sz + sz ≤ news.length := by rw [h2, ← Nat.succ_mul]; exact Nat.mul_le_mul_right sz hlt
          rw [List.drop_append_of_le_length (by omega), List.take_append_of_le_length (by simp; omega)]
          exact h3 i x hlt hx
        · obtain rfl : i = n := by omega
          have hx' : x = ys[i] := by rw [List.getElem?_eq_getElem (by omega)] at hx; simpa using hx.symm
          rw [hx', ← h2]
          rw [List.drop_left, List.take_of_length_le (by omega)]
          exact h8
      · rcases List.mem_append.1 hx with hx | hx
        · exact h4 x hx
        · exact h1 _ _ _ _ h8 x hx
      · obtain ⟨C, T, fz, r1, r2⟩ := h7
        refine ⟨C, T, fz, r1, fun j v hj => ?_⟩
        rcases Nat.lt_or_ge j news.length with hlt | hge
        · rw [List.getElem?_append_left hlt] at hj
          have hn0 : 0 < n := by
            rcases Nat.eq_zero_or_pos n with h0 | h0
            · subst h0; simp at h2; subst h2; simp at hlt
            · exact h0
          obtain ⟨C', T', fz', r1', r2'⟩ := h5 hn0
          rw [r1] at r1'
          simp only [Option.some.injEq, Obj.cells.injEq] at r1'
          obtain ⟨rfl, _, _⟩ := r1'
          exact r2' j v hj
        · rw [List.getElem?_append_right hge] at hj
          have := r2 (j - news.length) v hj
          rw [← this]; congr 1; omega
  obtain ⟨news, h2, h3, h4, h5⟩ := key ys.length (Nat.le_refl _)
  refine ⟨Gs, news, ⟨h2, hg1, fun i x hi => h3 i x (List.getElem?_eq_some_iff.1 hi).1 hi⟩, hg2, h4, fun w hin => ⟨h2, ?_⟩⟩
  obtain ⟨p, c, hp⟩ := h.form
  by_cases hys : ys = []
  · subst hys
    cases p with
    | none => exact .inl ⟨c, hp, rfl⟩
    | some a =>
      refine .inr ⟨a, c, hp, fun j x hj => ?_⟩
      have : news = [] := List.eq_nil_of_length_eq_zero (by simpa using h2)
      subst this; simp at hj
  · obtain ⟨c', hc'⟩ := h.addr hys
    refine .inr ⟨_, c', hc', fun j x hj => ?_⟩
    rw [Addr.add_mid]
    have := rg.rangeAt hin (h5 (List.length_pos_iff.2 hys)) j x hj
    exact this

theorem RC.append {α : Type} {R : Hp → List Nat → List Value → α → Prop} {sz : Nat} {Fs Gs : List (List Nat)} {cells news : List Value} {xs ys : List α} (h : RC R sz Φ Fs cells xs) (h' : RC R sz Φ Gs news ys) : RC R sz Φ (Fs ++ Gs) (cells ++ news) (xs ++ ys) := by
  refine ⟨by simp [h.len, h'.len, Nat.add_mul], by simp [h.flen, h'.flen], fun i x hi => ?_⟩
  rcases Nat.lt_or_ge i xs.length with hlt | hge
  · rw [List.getElem?_append_left hlt] at hi
    have hle : i * sz + sz ≤ cells.length := by rw [h.len, ← Nat.succ_mul]; exact Nat.mul_le_mul_right sz hlt
    rw [List.drop_append_of_le_length (by omega), List.take_append_of_le_length (by simp; omega)]
    have hF : (Fs ++ Gs).getD i [] = Fs.getD i [] := by
      simp only [List.getD_eq_getElem?_getD]
      rw [List.getElem?_append_left (by rw [h.flen]; exact hlt)]
    rw [hF]; exact h.el i x hi
  · rw [List.getElem?_append_right hge] at hi
    have hF : (Fs ++ Gs).getD i [] = Gs.getD (i - xs.length) [] := by
      simp only [List.getD_eq_getElem?_getD]
      rw [List.getElem?_append_right (by rw [h.flen]; exact hge), h.flen]
    have hm : i * sz - cells.length = (i - xs.length) * sz := by rw [h.len, Nat.sub_mul]
    rw [hF, List.drop_append, List.drop_eq_nil_of_le (by rw [h.len]; exact Nat.mul_le_mul_right sz hge), List.nil_append, hm]
    exact h'.el _ x hi

/-! ### A slice literal: a row of its own -/
theorem madeCells_zero (z : Array Value) : madeCells z 0 = #[] := Array.eq_empty_of_size_eq_zero (by rw [size_madeCells])
theorem map_range_zero (f : Nat → Value) {m : Nat} (h : m = 0) : Array.map f (Array.range m) = #[] := Array.eq_empty_of_size_eq_zero (by simp [h])

theorem x_buildSlice {t e sz n : Nat} {parts : Array (Nat × Operand)} {o : Oper} {z : Value} {vs : List (Nat × Value)} {C : Array Value} (ho : o.op = .buildSlice t n parts) 
    (ht : Sl g.P t e sz = true) (hz : Zr g.P e z) (hzs : z.cells.size = sz) (hsm : Nat.ble (n * sz) 4096 = true) (hs0 : Nat.blt 0 sz = true)
    (hv : parts.toList.map (fun p => (p.1, opv l p.2)) = vs.map (fun p => (p.1, some p.2))) (hC : Instr.fill (fun i => some (i * sz, sz)) (madeCells z.cells (n * sz)) vs = some C) (hCs : C.size = n * sz) :
    ∀ (a : Act) (w : World), Fr g.n l a → St w0 Φ L w → ∃ (b : Nat) (w' : World), (execOp a.eval o).run g.P w = .ok (.value (.slice (some ⟨b, 0, none⟩) n n)) w' ∧ St w0 Φ (Ent.row e sz (.slice (some ⟨b, 0, none⟩) n n) n C.toList :: L) w' := fun a w hf hw => by
  refine ⟨w.heap.size, w.alloc (.cells C e), ?_, ?_⟩
  · have hu := Sl_und ht
    have hsz : (g.P.info? e).map (·.size) = some sz := by
      unfold Sl at ht
      rw [hu] at ht
      simpa using ht
    cases hti : g.P.info? e with
    | none => simp [hti] at hsz
    | some ti =>
      have h2 : ti.size = sz := by simpa [hti] using hsz
      have h3 : ti.zero = some z := by unfold Zr at hz; simpa [hti] using hz
      have hsm' : n * sz ≤ 4096 := by simpa using hsm
      have hparts : (parts.map fun (i, x) => (i, a.eval x)).toList = vs := by
        simp only [Array.toList_map]
        have key : ∀ (qs : List (Nat × Operand)) (us : List (Nat × Value)), qs.map (fun p => (p.1, opv l p.2)) = us.map (fun p => (p.1, some p.2)) → qs.map (fun p => (p.1, a.eval p.2)) = us := by
          intro qs
          induction qs with
          | nil => intro us h; cases us with
            | nil => rfl
            | cons u us => cases h
          | cons q qs ih => intro us h; cases us with
            | nil => cases h
            | cons u us =>
              simp only [List.map_cons, List.cons.injEq, Prod.mk.injEq] at h
              obtain ⟨⟨h1, h2⟩, h3⟩ := h
              simp only [List.map_cons, ih us h3, hf.eval h2, h1]
        exact key _ _ hv
      have hb : (Instr.buildSlice t n (parts.map fun (i, x) => (i, a.eval x))).run g.P w = .ok (.slice (some ⟨w.heap.size, 0, none⟩) n n) (w.alloc (.cells C e)) := by
        unfold Instr.buildSlice
        simp only [Sem.run_bind, run_underlying hu, Result.andThen_ok, sizeOf, typeInfo, run_program, hti, Sem.run_pure, h2]
        rw [if_neg (by simp; omega)]
        by_cases h0 : n * sz = 0
        · have hC' : Instr.fill (fun i => some (i * sz, sz)) #[] vs = some C := by rw [← hC, h0, madeCells_zero]
          rw [if_pos h0]
          simp only [Sem.run_pure, Result.andThen_ok, map_range_zero _ h0, hparts, hC']
          simp [newRow]
        · simp [h0, Sem.run_bind, zeroValue, typeInfo, hti, h3, hparts, newRow]
          have : Array.map (fun x => z.cells[x % z.cells.size]!) (Array.range (n * sz)) = madeCells z.cells (n * sz) := rfl
          have hparts2 : List.map (fun x => (x.fst, a.eval x.snd)) parts.toList = vs := by simpa using hparts
          rw [this, hparts2, hC]
          simp
      unfold execOp
      simp only [ho]
      simp only [Sem.run_bind, hb]; rfl
  · refine hw.add (Chg.of_none (grownBy_alloc' _ _) _) ?_ (fun x hx => by simp [Ent.row, Value.ownBlock] at hx; omega) (by simp [Ent.row, Value.ownBlock])
    have hsm' : n * sz ≤ 4096 := by simpa using hsm
    have hs0' : 0 < sz := by simpa using hs0
    have hnle : n ≤ n * sz := Nat.le_mul_of_pos_right n hs0'
    exact World.ownsRow_lit w C n (Nat.zero_le _) (by unfold maxLen; omega) hCs

theorem e_buildSlice {t e sz n : Nat} {parts : Array (Nat × Operand)} {o : Oper} {z : Value} {vs : List (Nat × Value)} {C : Array Value} {d : Nat} (ho : o.op = .buildSlice t n parts) (hg : o.guard = none) (hd : o.dst = some d) (hn : Nat.blt d g.n = true)
    (ht : Sl g.P t e sz = true) (hz : Zr g.P e z) (hzs : z.cells.size = sz) (hsm : Nat.ble (n * sz) 4096 = true) (hs0 : Nat.blt 0 sz = true)
    (hv : parts.toList.map (fun p => (p.1, opv l p.2)) = vs.map (fun p => (p.1, some p.2))) (hC : Instr.fill (fun i => some (i * sz, sz)) (madeCells z.cells (n * sz)) vs = some C) (hCs : C.size = n * sz)
    (h : ∀ b, WL g k ops rest ((d, .slice (some ⟨b, 0, none⟩) n n) :: l) (St w0 Φ (Ent.row e sz (.slice (some ⟨b, 0, none⟩) n n) n C.toList :: L))) : WL g k ops (o :: rest) l (St w0 Φ L) :=
  WL.eff (v := fun b : Nat => .slice (some ⟨b, 0, none⟩) n n) (S' := fun b => St w0 Φ (Ent.row e sz (.slice (some ⟨b, 0, none⟩) n n) n C.toList :: L)) (x_buildSlice ho ht hz hzs hsm hs0 hv hC hCs) hg hd hn h

end Go.Proofs.Ytpajhchhkfnieaa.Eng
