/-
  The engine, part M3 (of gen3's contracts): a text builder of the function's own.
  Nothing here names a program.
-/
import Derived.Test.YteipbimepilcfaaGreatDoorEL
import Derived.Test.YteipbimepilcfaaGreatDoorEP
import Derived.Lib.Builder
import Derived.Lib.UnsafeStr
namespace Go.Proofs.YteipbimepilcfaaGreatDoor.Eng
open Go.RowKit (Below)
set_option linter.unusedVariables false
structure SB {Ψ0 H0 : Hp} {B0 : List Nat} (w0 : Base Ψ0 H0 B0) (Φ : Hp) (O : Vars) (T e b : Nat) (s : ByteArray) (w : World) : Prop where
  ex : ∃ wb, St w0 Φ O [] wb ∧ wb.heap.size = b ∧ Below b wb w
  bl : Lib.IsBuilder T e b b (Lib.byteCells s.data.toList) w
variable {P : Program} {g : G} {k : List Item} {ops : Array Oper} {rest : List Oper} {l : Env} {Ψ0 H0 : Hp} {B0 : List Nat} {w0 : Base Ψ0 H0 B0} {Φ : Hp} {O : Vars} {T e b : Nat} {s : ByteArray} {w w' : World}
theorem bat_below {p : Value} {bs : List Value} {B : Nat} (h : Lib.BuilderAt T e B b p bs w) (hb : Below w.heap.size w w') : Lib.BuilderAt T e B b p bs w' := by
  obtain ⟨h1, v, h2, h3, h4⟩ := h
  refine ⟨h1, v, ?_, h3.kept (row := none) (grownBy_of_below hb) ?_, h4⟩
  · rw [hb.block b (Array.getElem?_eq_some_iff.1 h2).1]; exact h2
  · cases hv : v.ownBlock with
    | none => exact .inl rfl
    | some x => exact .inr (by simp)
theorem SB.below (h : SB w0 Φ O T e b s w) (hb : Below w.heap.size w w') : SB w0 Φ O T e b s w' := by
  obtain ⟨⟨wb, h1, h2, h3⟩, h4⟩ := h
  refine ⟨⟨wb, h1, h2, ⟨hb.os.trans h3.os, hb.tape.trans h3.tape, hb.output.trans h3.output, Nat.le_trans h3.size hb.size, fun i hi => ?_⟩⟩, h4.imp (fun h => bat_below h hb) (fun h => bat_below h hb)⟩
  have := h3.size
  rw [hb.block i (by omega), h3.block i hi]
theorem SB.lt (h : SB w0 Φ O T e b s w) : b ≤ w.heap.size := by
  obtain ⟨⟨wb, h1, h2, h3⟩, h4⟩ := h
  have := h3.size; omega
theorem SB.fro (h : SB w0 Φ O T e b s w) : In Φ w := fun i o hi => by
  obtain ⟨⟨wb, h1, h2, h3⟩, h4⟩ := h
  rw [h3.block i (by have := h1.fro.lt hi; omega)]; exact h1.fro i o hi
theorem SB.in0 (h : SB w0 Φ O T e b s w) : In Ψ0 w := fun i o hi => by
  obtain ⟨⟨wb, h1, h2, h3⟩, h4⟩ := h
  have h5 := h1.in0 i o hi
  rw [h3.block i (by have := (Array.getElem?_eq_some_iff.1 h5).1; omega)]; exact h5
theorem SB.rgO (h : SB w0 Φ O T e b s w) {i b1 : Nat} {C : Array Value} {T1 : Nat} {fz : Nat × Nat} (hi : O[i]? = some (b1, .cells C T1 fz)) (o n : Nat) (cs : List Value) (hc : (C.toList.drop o).take n = cs) : w.rangeAt b1 o cs := by
  obtain ⟨⟨wb, h1, h2, h3⟩, h4⟩ := h
  have h5 : wb.heap[b1]? = some (.cells C T1 fz) := (h1.obj _ (List.mem_of_getElem? hi)).1
  have hh : w.heap[b1]? = some (.cells C T1 fz) := by rw [h3.block b1 (by have := (Array.getElem?_eq_some_iff.1 h5).1; omega)]; exact h5
  intro j v hj
  subst hc
  rw [List.getElem?_take] at hj
  split at hj
  · rw [List.getElem?_drop] at hj
    simp only [World.cell?, hh]
    simpa using hj
  · cases hj
theorem n_bld {T : TypeId} {z : Value} (hz : Zr P T z) (hC : z.cells = #[.pointer none, .slice none 0 0]) :
    OpN P (.alloc T) l (St w0 Φ O []) (fun b => .pointer (some ⟨b, 0, none⟩)) (fun b => SB w0 Φ O T e b ⟨#[]⟩) := fun n a w o ho hf hw => by
  refine ⟨w.heap.size, w.alloc (.cells #[.pointer none, .slice none 0 0] T), ?_, ⟨⟨w, hw, rfl, ?_⟩, Lib.fresh_isBuilder T e w⟩⟩
  · unfold execOp
    simp only [ho]
    unfold Zr at hz
    cases hti : P.info? T with
    | none => simp [hti] at hz
    | some ti =>
      have hzz : ti.zero = some z := by simpa [hti] using hz
      simp [Instr.alloc, zeroValue, typeInfo, hti, hzz, newVar, newRow, hC, Sem.run_bind]
  · have := grownBy_alloc' w (.cells #[.pointer none, .slice none 0 0] T)
    exact (Chg.of_none this []).toBelow
theorem c_callB {f : Nat} {xs : List Operand} {ts : Array TypeId} {v : Value} {vs : List Value} {S S' : World → Prop} (hF : Fun P f = true) (ha : opvs l xs = some vs)
    (h : ∀ w, S w → Calls P f vs.toArray w fun e w' => e = .returned v ∧ S' w') : OpC P (.call ⟨.value (.func f), xs.toArray, ts⟩) l S (fun _ : Unit => v) (fun _ => S') := fun n a w o ho hf hw =>
  ⟨f, _, run_call hF ha ho hf, (h w hw).mono fun e w' ⟨h1, h2⟩ => ⟨(), h1, h2⟩⟩
theorem lcb {o : Oper} {d : Nat} {v : Value} {S S' : World → Prop} (hop : OpC g.P o.op l S (fun _ : Unit => v) (fun _ => S')) (hd : dq o g.n = some d) (h : WL g k ops rest ((d, v) :: l) S') : WL g k ops (o :: rest) l S :=
  WL.call hop (dq_some hd).1 (dq_some hd).2.1 (dq_some hd).2.2 (fun _ => h)
structure SX (S : World → Prop) (b5 : Nat) (o : Obj) (w : World) : Prop where
  ex : ∃ wa, S wa ∧ wa.heap.size = b5 ∧ Below b5 wa w
  obj : w.heap[b5]? = some o
theorem n_allocX {T : TypeId} {z : Value} {C : Array Value} {S : World → Prop} (hz : Zr P T z) (hC : z.cells = C) :
    OpN P (.alloc T) l S (fun b => .pointer (some ⟨b, 0, none⟩)) (fun b => SX S b (.cells C T (0, 0))) := fun n a w o ho hf hw => by
  refine ⟨w.heap.size, w.alloc (.cells C T), ?_, ⟨⟨w, hw, rfl, (Chg.of_none (grownBy_alloc' w (.cells C T)) []).toBelow⟩, heap_alloc_new w _⟩⟩
  unfold execOp
  simp only [ho]
  unfold Zr at hz
  cases hti : P.info? T with
  | none => simp [hti] at hz
  | some ti =>
    have hzz : ti.zero = some z := by simpa [hti] using hz
    simp [Instr.alloc, zeroValue, typeInfo, hti, hzz, newVar, newRow, hC, Sem.run_bind]
theorem s_storeX {t n : TypeId} {x y : Operand} {b5 off : Nat} {T : TypeId} {C : Array Value} {v : Value} {vs : List Value} {S : World → Prop} (hz : Sz P t n = true)
    (hx : opv l x = some (.pointer (some ⟨b5, off, none⟩))) (hy : opv l y = some v) (hvs : v.cells.toList = vs) (hlen : vs.length = n) (hoff : Nat.ble (off + n) C.size = true) (h1 : One vs) {C' : List Value} (hC' : put C.toList off vs = C') :
    OpS P (.store t x y) l (SX S b5 (.cells C T (0, 0))) (SX S b5 (.cells C'.toArray T (0, 0))) := fun n a w o ho hf hw => by
  subst hC'; rw [← setMany_put]
  subst hvs
  obtain ⟨⟨wa, e1, e2, e3⟩, hb⟩ := hw
  obtain ⟨w', h2, h3, h4⟩ := run_storeVarMany (P := P) (o := off) hz (by simpa using hlen) hb (by simpa using hoff) h1
  have hc := Chg.of_some h4
  refine ⟨w', ?_, ⟨⟨wa, e1, e2, ⟨hc.os.trans e3.os, hc.tape.trans e3.tape, hc.output.trans e3.output, Nat.le_trans e3.size hc.size, fun i hi => ?_⟩⟩, h3⟩⟩
  · unfold execOp
    simp only [ho, hf.eval hx, hf.eval hy]
    simp [Instr.storeAt, Instr.sureAddr, Sem.run_bind, h2]
  · have := e3.size
    rw [hc.block i (by omega) (by simp; omega), e3.block i hi]
theorem SX.rg {S : World → Prop} {b5 : Nat} {C : Array Value} {T : Nat} {fz : Nat × Nat} (h : SX S b5 (.cells C T fz) w) (o n : Nat) (cs : List Value) (hc : (C.toList.drop o).take n = cs) : w.rangeAt b5 o cs := by
  intro j v hj
  subst hc
  rw [List.getElem?_take] at hj
  split at hj
  · rw [List.getElem?_drop] at hj
    simp only [World.cell?, h.obj]
    simpa using hj
  · cases hj
theorem SX.sb {b5 : Nat} {o : Obj} (h : SX (SB w0 Φ O T e b s) b5 o w) : SB w0 Φ O T e b s w := by
  obtain ⟨⟨wa, e1, e2, e3⟩, _⟩ := h
  subst e2
  exact e1.below e3
def wrt (s t : ByteArray) : Option ByteArray := if s.size + t.size ≤ 140737488355328 then some (s ++ t) else none
theorem wrt_some {s t u : ByteArray} (h : wrt s t = some u) : s.size + t.size ≤ 140737488355328 ∧ u = s ++ t := by
  unfold wrt at h; split at h
  · cases h; exact ⟨by assumption, rfl⟩
  · cases h
theorem SB.wrote {t u : ByteArray} (h : SB w0 Φ O T e b s w) (hu : wrt s t = some u) (h1 : Lib.BuilderAt T e b b (.pointer (some ⟨b, 0, none⟩)) (Lib.byteCells s.data.toList ++ Lib.byteCells t.data.toList) w') (h2 : Below b w w') : SB w0 Φ O T e b u w' := by
  obtain ⟨_, rfl⟩ := wrt_some hu
  obtain ⟨⟨wb, e1, e2, e3⟩, _⟩ := h
  refine ⟨⟨wb, e1, e2, ⟨h2.os.trans e3.os, h2.tape.trans e3.tape, h2.output.trans e3.output, Nat.le_trans e3.size h2.size, fun i hi => ?_⟩⟩, .inr ?_⟩
  · rw [h2.block i hi, e3.block i hi]
  · rw [ByteArray.data_append, Array.toList_append, Lib.byteCells_append]; exact h1
def SE {Ψ0 H0 : Hp} {B0 : List Nat} (w0 : Base Ψ0 H0 B0) (w : World) : Prop := ∃ Φ O wb, St w0 Φ O [] wb ∧ Below wb.heap.size wb w
theorem post_of_SE {v : Value} {Ψ H : Hp} {w0 : Base Ψ H []} (h : SE w0 w) : Post v w0.w (.returned v) w := by
  obtain ⟨Φ, O, w2, h1, h2⟩ := h
  have h3 := h1.bel.toBelow
  have : w0.w.heap.size ≤ w2.heap.size := h3.size
  exact ⟨rfl, ⟨h2.os.trans h3.os, h2.tape.trans h3.tape, h2.output.trans h3.output, Nat.le_trans h3.size h2.size, fun i hi => by rw [h2.block i (by omega), h3.block i hi]⟩⟩
theorem SB.se (h : SB w0 Φ O T e b s w) (h2 : Below b w w') : SE w0 w' := by
  obtain ⟨⟨wb, e1, rfl, e3⟩, _⟩ := h
  exact ⟨Φ, O, wb, e1, ⟨h2.os.trans e3.os, h2.tape.trans e3.tape, h2.output.trans e3.output, Nat.le_trans e3.size h2.size, fun i hi => by rw [h2.block i hi, e3.block i hi]⟩⟩
end Go.Proofs.YteipbimepilcfaaGreatDoor.Eng
