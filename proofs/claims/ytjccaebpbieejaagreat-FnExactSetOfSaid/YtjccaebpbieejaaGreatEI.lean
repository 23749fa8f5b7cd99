/-
  The engine, part I: more laws for the printed texts.
  Nothing here names a program.
-/
import Derived.Test.YtjccaebpbieejaaGreatEH
import Derived.Laws.BytesArg
namespace Go.Proofs.YtjccaebpbieejaaGreat.Eng
open Go.RowKit (Below wrap64)
set_option linter.unusedVariables false
set_option linter.unusedSimpArgs false

variable {g : G} {k : List Item} {l : Env} {Ψ0 H0 : Hp} {B0 : List Nat} {w0 : Base Ψ0 H0 B0} {Φ Φ' : Hp} {O : Vars} {L : List (List Nat)} {w w' : World} {S : World → Prop} {P : Program}

theorem OSl.flat0 {α : Type} {R : Hp → List Nat → List Value → α → Prop} {e sz : Nat} {D : List Nat} {v : Value} {xs : List α} (hfl : Flat R) (h : OSl R e sz Φ D v xs) : OSl R e sz Φ [] v xs := by
  obtain ⟨cells, Fs, g1, g2, rfl⟩ := h.ex
  rw [g2.flat hfl] at h
  exact h
theorem RC.kn {α : Type} {R : Hp → List Nat → List Value → α → Prop} {sz : Nat} {Fs : List (List Nat)} {cells : List Value} {xs : List α} (hk : Knows R) (h : RC R sz Φ Fs cells xs) : Kw Φ Fs.flatten := fun k hm => by
  obtain ⟨F, hF, hkF⟩ := List.mem_flatten.1 hm
  obtain ⟨i, hi, rfl⟩ := List.getElem_of_mem hF
  have hx : i < xs.length := by rw [← h.flen]; exact hi
  have e := hk _ _ _ _ (h.el i xs[i] (List.getElem?_eq_getElem hx))
  refine e k ?_
  simpa [List.getD_eq_getElem?_getD, List.getElem?_eq_getElem hi] using hkF

def mkc (n m : Int) : Option Unit := if n ≤ m ∧ m ≤ 4294967296 then some () else none
theorem mkc_le {n m : Int} {u : Unit} (h : mkc n m = some u) : n ≤ m ∧ m ≤ 4294967296 := by
  unfold mkc at h; split at h
  · assumption
  · cases h
theorem mk_le {α : Type} {z : α} {n : Int} {xs : List α} (h : mk z n = some xs) : n ≤ 4294967296 := by
  unfold mk at h; split at h
  · rename_i h1; exact h1.2
  · cases h

theorem resOk.three {r1 r2 r3 : ResultVar} {v1 v2 v3 : Value} (h1 : rvOk P r1 l S v1) (h2 : rvOk P r2 l S v2) (h3 : rvOk P r3 l S v3) : resOk P #[r1, r2, r3] l S (.tuple #[v1, v2, v3]) := fun fn n a w hr hf hw => by
  cases r1 <;> cases r2 <;> cases r3 <;>
  (first | obtain ⟨a1, p1, q1⟩ := h1 | skip) <;> (first | obtain ⟨a2, p2, q2⟩ := h2 | skip) <;> (first | obtain ⟨a3, p3, q3⟩ := h3 | skip) <;>
  (first | have e1 := hf.at_ _ _ p1 | have e1 := hf.at_ _ _ h1) <;> (first | have e2 := hf.at_ _ _ p2 | have e2 := hf.at_ _ _ h2) <;> (first | have e3 := hf.at_ _ _ p3 | have e3 := hf.at_ _ _ h3) <;>
  (first | have f1 := q1 w hw | have f1 := hw) <;> (first | have f2 := q2 w hw | have f2 := hw) <;> (first | have f3 := q3 w hw | have f3 := hw) <;>
  simp [results, hr, asAddr, e1, e2, e3, f1, f2, f3]

/-! ### Literals -/
def Pl (P : Program) (t : Nat) (ps : Array (Nat × Nat)) : Bool :=
  match P.underlying t with
  | some (.struct fs) => (fs.toList.map fun f => (f.offset, ((P.info? f.type).map (·.size)))) == ps.toList.map (fun p => (p.1, some p.2))
  | _ => false

theorem mapM_places {P : Program} {w : World} : ∀ (fs : List Field) (ps : List (Nat × Nat)), (fs.map fun f => (f.offset, (P.info? f.type).map (·.size))) = ps.map (fun p => (p.1, some p.2)) →
    (fs.mapM fun f => (do pure (f.offset, ← sizeOf f.type) : Sem (Nat × Nat))).run P w = .ok ps w
  | [], ps, h => by
    cases ps with
    | nil => rfl
    | cons p ps => cases h
  | f :: fs, ps, h => by
    cases ps with
    | nil => cases h
    | cons p ps =>
      simp only [List.map_cons, List.cons.injEq, Prod.mk.injEq] at h
      obtain ⟨⟨h1, h2⟩, h3⟩ := h
      cases hti : P.info? f.type with
      | none => simp [hti] at h2
      | some ti =>
        have h4 : ti.size = p.2 := by simpa [hti] using h2
        have ih := mapM_places (P := P) (w := w) fs ps h3
        simp only [List.mapM_cons, Sem.run_bind, sizeOf, typeInfo, run_program, Result.andThen_ok, hti, Sem.run_pure]
        simp only [sizeOf, typeInfo] at ih
        rw [ih]
        simp [h1, h4]

theorem q_build {P : Program} {t : Nat} {parts : Array (Nat × Operand)} {ps : Array (Nat × Nat)} {z : Value} {vs : List (Nat × Value)} {C : Array Value} (ht : Pl P t ps = true) (hz : Zr P t z)
    (hv : parts.toList.map (fun p => (p.1, opv l p.2)) = vs.map (fun p => (p.1, some p.2))) (hC : Instr.fill (ps[·]?) z.cells vs = some C) : OpQ P (.build t parts) l S (.agg C) := fun n a w o ho hf hw => by
  unfold Pl at ht
  split at ht
  · rename_i fs hu
    have ht' := mapM_places (P := P) (w := w) fs.toList ps.toList (by simpa using ht)
    unfold Zr at hz
    cases hti : P.info? t with
    | none => simp [hti] at hz
    | some ti =>
      have hzz : ti.zero = some z := by simpa [hti] using hz
      have hparts : (parts.map fun (i, x) => (i, a.eval x)).toList = vs := by
        simp only [Array.toList_map]
        have key : ∀ (qs : List (Nat × Operand)) (us : List (Nat × Value)), qs.map (fun p => (p.1, opv l p.2)) = us.map (fun p => (p.1, some p.2)) → qs.map (fun p => (p.1, a.eval p.2)) = us := by
          intro qs
          induction qs with
          | nil => intro us h; cases us with
            | nil => rfl
            | cons u us => cases h
          | cons q qs ih => intro us h; cases us with
            | nil => cases h
            | cons u us =>
              simp only [List.map_cons, List.cons.injEq, Prod.mk.injEq] at h
              obtain ⟨⟨h1, h2⟩, h3⟩ := h
              simp only [List.map_cons, ih us h3, hf.eval h2, h1]
        exact key _ _ hv
      have hmap : (fs.mapM fun f => (do pure (f.offset, ← sizeOf f.type) : Sem (Nat × Nat))).run P w = .ok ps w := by
        rw [Array.mapM_eq_mapM_toList, Sem.run_map, ht']
        simp
      have hb : (Instr.build t (parts.map fun (i, x) => (i, a.eval x))).run P w = .ok (.agg C) w := by
        unfold Instr.build
        simp only [Sem.run_bind, zeroValue, typeInfo, run_program, Result.andThen_ok, hti, hzz, Sem.run_pure, run_underlying hu]
        rw [hmap]
        simp only [Result.andThen_ok, hparts, hC]
        rfl
      unfold execOp
      simp only [ho]
      simp only [Sem.run_bind, hb]; rfl
  · cases ht


theorem apnil {A : List Nat} (k : Nat) (h : k ∈ A ++ []) : k ∈ A := by simpa using h

theorem HSl.hb {α : Type} {R : Hp → List Nat → List Value → α → Prop} {e sz i : Nat} {D : List Nat} {v : Value} {xs : List α} {cs : List Value} (h : HSl R e sz Φ D v xs i cs) : sb v ∈ ob v := by
  obtain ⟨cells, Fs, g1, g2, g3, g4, g5⟩ := h.ex
  obtain ⟨cap, hv, h0, hb, hr⟩ := g1.at_ (by have := h.lt; omega)
  rw [hb]; simp

/-- A quiet operation that must come now. -/
theorem mv {ops : Array Oper} {kp : Nat → Bool} {fuel : Nat} {done : List Nat} {Sw : World → Prop} {o : Oper} {d i : Nat} {v : Value} (hi : ops[i]? = some o) (hkeep : kp i = true → ∀ w, Sw w → S w) (hop : OpQ g.P o.op l Sw v) (hd : dq o g.n = some d)
    (h : WM g k ops S kp fuel (i :: done) ((d, v) :: l) Sw) : WI g k ops S kp fuel done i l Sw := WI.of i hi (dq_some hd).1 fun a w hf hw => by
  have hr := hop g.n a w o rfl hf hw
  unfold Oper.wp
  rw [hr, Oper.upon_value, (dq_some hd).2.1]
  exact ⟨fun hk => hkeep hk w hw, by rw [lst_cons]; exact h _ _ (hf.put (dq_some hd).2.2 v) hw⟩

/-- Two ways meet again within a region. -/
theorem WL.cutS {ops : Array Oper} {rest : List Oper} {σ : Type} (n : Nat) (env : σ → Env) (T : σ → World → Prop) (M : σ → Prop) (hk : ∀ s, M s → WL g k ops (rest.drop n) (env s) (T s)) (hc : (∀ s, M s → WL g k ops (rest.drop n) (env s) (T s)) → WL g k ops rest l S) : WL g k ops rest l S := hc hk

/-- The bytes of a slice, as a text. -/
def bstr (xs : List Int) : ByteArray := ⟨(xs.map fun n => UInt8.ofNat n.toNat).toArray⟩
theorem q_convS {src dst : TypeId} {x : Operand} {s : ByteArray} (hs : Str P src = true) (hd : Str P dst = true) (hx : opv l x = some (.string s)) : OpQ P (.convert src dst x) l S (.string s) := fun n a w o ho hf hw => by
  have hu : P.underlying src = some .string := by unfold Str at hs; split at hs <;> simp_all
  have hv : P.underlying dst = some .string := by unfold Str at hd; split at hd <;> simp_all
  unfold execOp; simp only [ho, hf.eval hx]
  simp [convert, run_underlying hu, run_underlying hv]
theorem q_convB {src dst e : TypeId} {x : Operand} {v : Value} {F : List Nat} {xs : List Int} {Ψ0 H0 : Hp} {B0 : List Nat} {w0 : Base Ψ0 H0 B0} {Φ : Hp} {O : Vars} {L : List (List Nat)} (hs : Sl P src e 1 = true) (he : Ik P e .u8 = true) (hd : Str P dst = true) (hx : opv l x = some v) (hq : ∀ w, St w0 Φ O L w → RSl (RI .u8) 1 Φ F v xs) : OpQ P (.convert src dst x) l (St w0 Φ O L) (.string (bstr xs)) := fun n a w o ho hf hw => by
  have h := hq w hw
  have hu := Sl_und hs
  have hv : P.underlying dst = some .string := by unfold Str at hd; split at hd <;> simp_all
  obtain ⟨p, c, hp, _⟩ := h.form
  have hrun : (convert src dst v).run P w = .ok (.string (bstr xs)) w := by
    by_cases hne : xs = []
    · subst hne
      cases p with
      | none => rw [hp]; exact run_convert_bytes_nil w src e hu (ik_und he) _ _ dst hv
      | some ad =>
        obtain ⟨b, of, sp⟩ := ad
        rw [hp]
        rw [run_convert_bytes_string w src dst e _ _ _ hu (ik_und he) hv]
        simp [Conv.bytesToString, loadCells, bstr]
        rfl
    · obtain ⟨cap, hc⟩ := h.addr hne
      have := run_convert_bytes_arg (P := P) w src e hu (ik_und he) (sb v) (so v) xs.length cap xs rfl (fun i hi => by
        obtain ⟨cs, G, h1, h2, _, _, h3⟩ := h.el (List.getElem?_eq_getElem hi)
        obtain ⟨rfl, _⟩ := h3
        have := rg.rangeAt hw.fro h2 0 _ rfl
        simp [List.getD, List.getElem?_eq_getElem hi]
        simpa using this) dst hv
      have hv' : v = .slice (some ⟨sb v, so v, none⟩) xs.length cap := hc
      rw [← hv'] at this
      exact this
  unfold execOp; simp only [ho, hf.eval hx, Sem.run_bind, hrun]
  rfl
end Go.Proofs.YtjccaebpbieejaaGreat.Eng
