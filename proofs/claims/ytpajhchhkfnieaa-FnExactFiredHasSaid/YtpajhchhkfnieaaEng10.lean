/-
  The engine, part 10: conversions between integers, division, bits and shifts, and equality of structs.
  Nothing here names a program.
-/
import Derived.Test.YtpajhchhkfnieaaEng8
import Derived.Laws.StructEq
namespace Go.Proofs.Ytpajhchhkfnieaa.Eng
set_option linter.unusedVariables false
set_option linter.unusedSimpArgs false

variable {P : Program} {l : List (Nat × Value)} {S : World → Prop}

/-- t is of the integer kind k. -/
def Ik (P : Program) (t : Nat) (k : IntKind) : Bool := match P.underlying t with | some (.int k') => decide (k' = k) | _ => false
theorem ik_und {t : Nat} {k : IntKind} (h : Ik P t k = true) : P.underlying t = some (.int k) := by
  unfold Ik at h; split at h
  · rename_i k' hu; rw [hu, of_decide_eq_true h]
  · cases h

theorem q_convI {src dst : TypeId} {k k' : IntKind} {x : Operand} {i : Int} (hs : Ik P src k = true) (hd : Ik P dst k' = true) (hx : opv l x = some (.int k i)) : OpQ P (.convert src dst x) l S (.int k' (k'.wrap i)) := fun n a w o ho hf hw => by
  unfold execOp; simp only [ho, hf.eval hx]
  simp [convert, run_underlying (ik_und hs), run_underlying (ik_und hd), Conv.intToInt]

theorem q_quo {x y : Operand} {t u : TypeId} {k : IntKind} {i j : Int} (hx : opv l x = some (.int k i)) (hy : opv l y = some (.int k j)) (hj : j ≠ 0) : OpQ P (.binOp .quo t x y u) l S (.int k (k.wrap (i.tdiv j))) :=
  q_cmp hx hy fun w => by simp [eqGuard, binOp, Op.intDiv, hj]
theorem q_rem {x y : Operand} {t u : TypeId} {k : IntKind} {i j : Int} (hx : opv l x = some (.int k i)) (hy : opv l y = some (.int k j)) (hj : j ≠ 0) : OpQ P (.binOp .rem t x y u) l S (.int k (i.tmod j)) :=
  q_cmp hx hy fun w => by simp [eqGuard, binOp, Op.intDiv, hj]

def quoI (k : IntKind) (i j : Int) : Option Int := if j = 0 then none else some (k.wrap (i.tdiv j))
def remI (i j : Int) : Option Int := if j = 0 then none else some (i.tmod j)
theorem q_quoV {x y : Operand} {t u : TypeId} {k : IntKind} {i j m : Int} (hx : opv l x = some (.int k i)) (hy : opv l y = some (.int k j)) (h : quoI k i j = some m) : OpQ P (.binOp .quo t x y u) l S (.int k m) := by
  unfold quoI at h; split at h
  · cases h
  · cases h; exact q_quo hx hy (by assumption)
theorem q_remV {x y : Operand} {t u : TypeId} {k : IntKind} {i j m : Int} (hx : opv l x = some (.int k i)) (hy : opv l y = some (.int k j)) (h : remI i j = some m) : OpQ P (.binOp .rem t x y u) l S (.int k m) := by
  unfold remI at h; split at h
  · cases h
  · cases h; exact q_rem hx hy (by assumption)

def andI (k : IntKind) (i j : Int) : Int := k.wrap ((BitVec.ofInt k.bits i) &&& (BitVec.ofInt k.bits j)).toNat
def orI (k : IntKind) (i j : Int) : Int := k.wrap ((BitVec.ofInt k.bits i) ||| (BitVec.ofInt k.bits j)).toNat
def xorI (k : IntKind) (i j : Int) : Int := k.wrap ((BitVec.ofInt k.bits i) ^^^ (BitVec.ofInt k.bits j)).toNat
theorem q_and {x y : Operand} {t u : TypeId} {k : IntKind} {i j : Int} (hx : opv l x = some (.int k i)) (hy : opv l y = some (.int k j)) : OpQ P (.binOp .and t x y u) l S (.int k (andI k i j)) :=
  q_cmp hx hy fun w => by simp [eqGuard, binOp, Op.intBits, andI]
theorem q_or {x y : Operand} {t u : TypeId} {k : IntKind} {i j : Int} (hx : opv l x = some (.int k i)) (hy : opv l y = some (.int k j)) : OpQ P (.binOp .or t x y u) l S (.int k (orI k i j)) :=
  q_cmp hx hy fun w => by simp [eqGuard, binOp, Op.intBits, orI]
theorem q_xor {x y : Operand} {t u : TypeId} {k : IntKind} {i j : Int} (hx : opv l x = some (.int k i)) (hy : opv l y = some (.int k j)) : OpQ P (.binOp .xor t x y u) l S (.int k (xorI k i j)) :=
  q_cmp hx hy fun w => by simp [eqGuard, binOp, Op.intBits, xorI]

theorem q_shift {op : BinOp} {x y : Operand} {t u : TypeId} {k k' : IntKind} {i j : Int} {v : Value} (hx : opv l x = some (.int k i)) (hy : opv l y = some (.int k' j))
    (hv : ∀ w, (do eqGuard op t x y (.int k i) (.int k' j); binOp op t (.int k i) (.int k' j) : Sem Value).run P w = .ok v w) : OpQ P (.binOp op t x y u) l S v := fun n a w o ho hf hw => by
  unfold execOp; simp only [ho, hf.eval hx, hf.eval hy]
  simp only [Sem.run_bind, hv w]; rfl
def shrI (k : IntKind) (i j : Int) : Int := i.fdiv (2 ^ (min j.toNat k.bits))
def shlI (k : IntKind) (i j : Int) : Int := k.wrap (i * 2 ^ (min j.toNat k.bits))
theorem q_shr {x y : Operand} {t u : TypeId} {k k' : IntKind} {i j : Int} (hx : opv l x = some (.int k i)) (hy : opv l y = some (.int k' j)) (hj : ¬ j < 0) : OpQ P (.binOp .shr t x y u) l S (.int k (shrI k i j)) :=
  q_shift hx hy fun w => by simp [eqGuard, binOp, Op.shift, hj, shrI]
theorem q_shl {x y : Operand} {t u : TypeId} {k k' : IntKind} {i j : Int} (hx : opv l x = some (.int k i)) (hy : opv l y = some (.int k' j)) (hj : ¬ j < 0) : OpQ P (.binOp .shl t x y u) l S (.int k (shlI k i j)) :=
  q_shift hx hy fun w => by simp [eqGuard, binOp, Op.shift, hj, shlI]

/-! ### Equality of structs whose leaves are integers, truth values and strings -/
inductive LK | i (k : IntKind) | b | s deriving DecidableEq
def ceq1 : LK → Value → Value → Bool
  | .i _, .int _ a, .int _ b => a == b
  | .b, .bool a, .bool b => a == b
  | .s, .string a, .string b => seq a b
  | _, _, _ => false
def cok1 : LK → Value → Value → Bool
  | .i k, .int k1 _, .int k2 _ => decide (k1 = k) && decide (k2 = k)
  | .b, .bool _, .bool _ => true
  | .s, .string _, .string _ => true
  | _, _, _ => false
def ceq : List LK → List Value → List Value → Bool
  | k :: ks, x :: xs, y :: ys => ceq1 k x y && ceq ks xs ys
  | _, _, _ => true
def cok : List LK → List Value → List Value → Bool
  | [], [], [] => true
  | k :: ks, x :: xs, y :: ys => cok1 k x y && cok ks xs ys
  | _, _, _ => false

theorem cok.len : ∀ {L : List LK} {xs ys : List Value}, cok L xs ys = true → xs.length = L.length ∧ ys.length = L.length
  | [], [], [], _ => ⟨rfl, rfl⟩
  | k :: ks, x :: xs, y :: ys, h => by
    simp only [cok, Bool.and_eq_true] at h
    have := cok.len h.2
    simp [this.1, this.2]
  | [], _ :: _, _, h => by simp [cok] at h
  | [], [], _ :: _, h => by simp [cok] at h
  | _ :: _, [], _, h => by simp [cok] at h
  | _ :: _, _ :: _, [], h => by simp [cok] at h

theorem cok_append : ∀ {L1 L2 : List LK} {xs ys : List Value}, cok (L1 ++ L2) xs ys = true → ∃ x1 x2 y1 y2, xs = x1 ++ x2 ∧ ys = y1 ++ y2 ∧ cok L1 x1 y1 = true ∧ cok L2 x2 y2 = true ∧ ceq (L1 ++ L2) xs ys = (ceq L1 x1 y1 && ceq L2 x2 y2)
  | [], L2, xs, ys, h => ⟨[], xs, [], ys, rfl, rfl, rfl, h, by simp [ceq]⟩
  | k :: L1, L2, [], ys, h => by simp [cok] at h
  | k :: L1, L2, x :: xs, [], h => by simp [cok] at h
  | k :: L1, L2, x :: xs, y :: ys, h => by
    simp only [List.cons_append, cok, Bool.and_eq_true] at h
    obtain ⟨x1, x2, y1, y2, rfl, rfl, h1, h2, h3⟩ := cok_append h.2
    refine ⟨x :: x1, x2, y :: y1, y2, rfl, rfl, by simp [cok, h.1, h1], h2, ?_⟩
    simp only [List.cons_append, ceq, h3, Bool.and_assoc]

def EqFs (P : Program) (E : TypeId → Option (List LK)) : List Field → Nat → Option (List LK)
  | [], _ => some []
  | f :: fs, off =>
    if f.name = "_" ∨ f.offset ≠ off then none else
    match E f.type with
    | none => none
    | some L => if (T1 P f.type && L.length == 1) || Tn P f.type L.length then (EqFs P E fs (off + L.length)).map (L ++ ·) else none

def EqTy (P : Program) : Nat → TypeId → Option (List LK)
  | 0, _ => none
  | d + 1, t => match P.underlying t with
    | some (.int k) => some [.i k]
    | some .bool => some [.b]
    | some .string => some [.s]
    | some (.struct fs) => if P.stoodInHeld t then none else EqFs P (EqTy P d) fs.toList 0
    | _ => none

/-- v is the value at type t of the cells c. -/
def mkV (P : Program) (t : TypeId) (c : List Value) (v : Value) : Prop := (T1 P t = true ∧ c = [v]) ∨ (T1 P t = false ∧ v = .agg c.toArray)

theorem eqFs_run {d : Nat} {E : TypeId → Option (List LK)}
    (hE : ∀ t L, E t = some L → ∀ cx cy, cok L cx cy = true → ∀ vx vy, mkV P t cx vx → mkV P t cy vy → ∀ w, (Op.equalIn d t vx vy).run P w = .ok (ceq L cx cy) w) :
    ∀ (fs : List Field) (off : Nat) (L : List LK), EqFs P E fs off = some L → ∀ (px py cx cy : List Value), px.length = off → py.length = off → cok L cx cy = true → ∀ w,
      (Op.eqFields d (px ++ cx).toArray (py ++ cy).toArray fs).run P w = .ok (ceq L cx cy) w
  | [], off, L, h, px, py, cx, cy, _, _, hc, w => by
    cases h
    cases cx <;> cases cy <;> simp [cok] at hc
    rfl
  | f :: fs, off, L, h, px, py, cx, cy, hpx, hpy, hc, w => by
    unfold EqFs at h
    split at h
    · cases h
    · rename_i hno
      have hname : f.name ≠ "_" := fun e => hno (.inl e)
      have hoff : f.offset = off := Classical.byContradiction fun e => hno (.inr e)
      split at h
      · cases h
      · rename_i L1 hL1
        split at h
        · rename_i hsz
          cases hL2 : EqFs P E fs (off + L1.length) with
          | none => simp [hL2] at h
          | some L2 =>
            simp only [hL2, Option.map_some, Option.some.injEq] at h
            subst h
            obtain ⟨x1, x2, y1, y2, rfl, rfl, h1, h2, h3⟩ := cok_append hc
            obtain ⟨l1, l2⟩ := cok.len h1
            have part_run : ∀ (p c1 c2 : List Value), p.length = off → c1.length = L1.length → ∃ v, (part f.type (p ++ (c1 ++ c2)).toArray f.offset).run P w = .ok v w ∧ mkV P f.type c1 v := by
              intro p c1 c2 hp hl
              rw [Bool.or_eq_true, Bool.and_eq_true] at hsz
              rcases hsz with ⟨ht, hn⟩ | ht
              · have hn : L1.length = 1 := by simpa using hn
                rw [hn] at hl
                match c1, hl with
                | [v], _ =>
                  refine ⟨v, ?_, .inl ⟨ht, rfl⟩⟩
                  unfold part
                  simp [Sem.run_bind, run_isAgg1 ht, hoff, ← hp]
              · have hF : T1 P f.type = false := by
                  unfold Tn at ht; unfold T1
                  split at ht
                  · rename_i fs' hu; rw [hu]
                  · cases ht
                refine ⟨.agg c1.toArray, ?_, .inr ⟨hF, rfl⟩⟩
                unfold Tn at ht
                split at ht
                · rename_i fs' hu
                  have hiA : (isAgg f.type).run P w = .ok true w := by simp [isAgg, run_underlying hu]
                  have hso : (sizeOf f.type).run P w = .ok L1.length w := by
                    cases hti : P.info? f.type with
                    | none => simp [hti] at ht
                    | some ti => simp [sizeOf, typeInfo, hti] at ht ⊢; exact ht
                  unfold part
                  simp only [Sem.run_bind, hiA, Result.andThen_ok, if_true, hso, Sem.run_pure]
                  congr 2
                  rw [hoff]
                  apply Array.ext'
                  simp [Array.toList_extract, List.extract, ← hp, ← hl]
                · cases ht
            obtain ⟨vx, rx, mx⟩ := part_run px x1 x2 hpx l1
            obtain ⟨vy, ry, my⟩ := part_run py y1 y2 hpy l2
            unfold Op.eqFields
            simp only [if_pos hname, Sem.run_bind, rx, ry, Result.andThen_ok, hE f.type L1 hL1 x1 y1 h1 vx vy mx my w]
            rw [h3]
            cases hq : ceq L1 x1 y1 with
            | false => simp
            | true =>
              simp only [Bool.not_true, Bool.false_eq_true, if_false, Bool.true_and]
              have ih := eqFs_run hE fs (off + L1.length) L2 hL2 (px ++ x1) (py ++ y1) x2 y2 (by simp [hpx, l1]) (by simp [hpy, l2]) h2 w
              simpa [List.append_assoc] using ih
        · cases h

theorem eqTy_run : ∀ (d : Nat) (t : TypeId) (L : List LK), EqTy P d t = some L → ∀ cx cy, cok L cx cy = true → ∀ vx vy, mkV P t cx vx → mkV P t cy vy → ∀ w, (Op.equalIn d t vx vy).run P w = .ok (ceq L cx cy) w
  | 0, t, L, h, _, _, _, _, _, _, _, _ => by simp [EqTy] at h
  | d + 1, t, L, h, cx, cy, hc, vx, vy, hx, hy, w => by
    unfold EqTy at h
    split at h
    · rename_i k hu
      cases h
      have ht : T1 P t = true := by simp [T1, hu]
      rcases hx with ⟨_, rfl⟩ | ⟨hx, _⟩
      · rcases hy with ⟨_, rfl⟩ | ⟨hy, _⟩
        · cases vx <;> cases vy <;> simp [cok, cok1] at hc
          obtain ⟨rfl, rfl⟩ := hc
          rw [run_equalIn_int w d t _ _ _ _ hu]; simp [ceq, ceq1]
        · rw [ht] at hy; cases hy
      · rw [ht] at hx; cases hx
    · rename_i hu
      cases h
      have ht : T1 P t = true := by simp [T1, hu]
      rcases hx with ⟨_, rfl⟩ | ⟨hx, _⟩
      · rcases hy with ⟨_, rfl⟩ | ⟨hy, _⟩
        · cases vx <;> cases vy <;> simp [cok, cok1] at hc
          rw [run_equalIn_bool' w d t _ _ hu]; simp [ceq, ceq1]
        · rw [ht] at hy; cases hy
      · rw [ht] at hx; cases hx
    · rename_i hu
      cases h
      have ht : T1 P t = true := by simp [T1, hu]
      rcases hx with ⟨_, rfl⟩ | ⟨hx, _⟩
      · rcases hy with ⟨_, rfl⟩ | ⟨hy, _⟩
        · cases vx <;> cases vy <;> simp [cok, cok1] at hc
          rw [run_equalIn_string w d t _ _ hu]; simp [ceq, ceq1, seq]
        · rw [ht] at hy; cases hy
      · rw [ht] at hx; cases hx
    · rename_i fs hu
      split at h
      · cases h
      · rename_i hst
        have ht : T1 P t = false := by simp [T1, hu]
        rcases hx with ⟨hx, _⟩ | ⟨_, rfl⟩
        · rw [ht] at hx; cases hx
        rcases hy with ⟨hy, _⟩ | ⟨_, rfl⟩
        · rw [ht] at hy; cases hy
        have hf : P.fieldsOf t = fs := by simp [Program.fieldsOf, hu]
        rw [run_equalIn_struct w d t _ _ (by rw [hf, hu]) (by simpa using hst), hf]
        exact eqFs_run (fun t' L' h' => eqTy_run d t' L' h') fs.toList 0 L h [] [] cx cy rfl rfl hc w
    · cases h

/-- The struct type t compares leaf by leaf. -/
def EqT (P : Program) (t : TypeId) (L : List LK) : Bool := (match P.underlying t with | some (.struct _) => true | _ => false) && decide (EqTy P 10000 t = some L) && !(P.eqGuardType P.depth t)

theorem eqT_run {t : TypeId} {L : List LK} (h : EqT P t L = true) {cx cy : List Value} (hc : cok L cx cy = true) (w : World) : (Op.equalIn 10000 t (.agg cx.toArray) (.agg cy.toArray)).run P w = .ok (ceq L cx cy) w := by
  unfold EqT at h
  simp only [Bool.and_eq_true, decide_eq_true_eq] at h
  obtain ⟨⟨h1, h2⟩, h3⟩ := h
  have ht : T1 P t = false := by
    unfold T1; split at h1
    · rename_i hu; rw [hu]
    · cases h1
  exact eqTy_run 10000 t L h2 cx cy hc _ _ (.inr ⟨ht, rfl⟩) (.inr ⟨ht, rfl⟩) w

theorem q_eqA {t u : TypeId} {L : List LK} {x y : Operand} {cx cy : List Value} {r : Bool} (h : EqT P t L = true) (hx : opv l x = some (.agg cx.toArray)) (hy : opv l y = some (.agg cy.toArray)) (hc : cok L cx cy = true) (hr : ceq L cx cy = r) :
    OpQ P (.binOp .eql t x y u) l S (.bool r) := fun n a w o ho hf hw => by
  have hg : P.eqGuardType P.depth t = false := by unfold EqT at h; simp only [Bool.and_eq_true] at h; simpa using h.2
  unfold execOp; simp only [ho, hf.eval hx, hf.eval hy]
  simp only [Sem.run_bind, run_eqGuard_agg w .eql t x y _ _ hg, Result.andThen_ok, run_eql_struct, eqT_run h hc, hr]; rfl
theorem q_neA {t u : TypeId} {L : List LK} {x y : Operand} {cx cy : List Value} {r : Bool} (h : EqT P t L = true) (hx : opv l x = some (.agg cx.toArray)) (hy : opv l y = some (.agg cy.toArray)) (hc : cok L cx cy = true) (hr : ceq L cx cy = r) :
    OpQ P (.binOp .neq t x y u) l S (.bool (!r)) := fun n a w o ho hf hw => by
  have hg : P.eqGuardType P.depth t = false := by unfold EqT at h; simp only [Bool.and_eq_true] at h; simpa using h.2
  unfold execOp; simp only [ho, hf.eval hx, hf.eval hy]
  simp only [Sem.run_bind, run_eqGuard_agg w .neq t x y _ _ hg, Result.andThen_ok, run_neq_struct, eqT_run h hc, hr]; rfl

/-! ### A guard that is itself undefined -/
theorem yl_undef {n : Nat} {a : Act} {ops : Array Oper} (hf : Fr n l a) {j : Nat} (h : yl ops l j = some undef) : yielded ops a.tmps j = none := by
  unfold yl at h
  unfold yielded
  cases hd : (ops[j]?).bind (·.dst) with
  | none => simp [hd] at h
  | some t =>
    simp only [hd, Option.bind_some] at h
    simp [hf.at_ t _ h, undef]

theorem WL.nox {g : G} {k : List Item} {ops : Array Oper} {rest : List Oper} {o : Oper} {j d : Nat} {b : Bool} (hg : o.guard = some (j, b)) (hy : yl ops l j = some undef) (hd : o.dst = some d) (hn : Nat.blt d g.n = true)
    (h : WL g k ops rest ((d, undef) :: l) S) : WL g k ops (o :: rest) l S := fun a w hf hw => by
  have hwant : Region.wanted o (yielded ops a.tmps) = false := by simp [Region.wanted, hg, yl_undef hf hy]
  simp only [wpList, hwant, hd]
  exact h _ _ (hf.put hn undef) hw
theorem WQ.nox {g : G} {k : List Item} {ops : Array Oper} {rest : List Oper} {o : Oper} {j d : Nat} {b : Bool} (hg : o.guard = some (j, b)) (hy : yl ops l j = some undef) (hd : o.dst = some d) (hn : Nat.blt d g.n = true)
    (h : WQ g k ops rest ((d, undef) :: l) S) : WQ g k ops (o :: rest) l S := fun a hf => by
  have hwant : Region.wanted o (yielded ops a.tmps) = false := by simp [Region.wanted, hg, yl_undef hf hy]
  simp only [wpQuiet, hwant, hd]
  exact h _ (hf.put hn undef)

end Go.Proofs.Ytpajhchhkfnieaa.Eng
