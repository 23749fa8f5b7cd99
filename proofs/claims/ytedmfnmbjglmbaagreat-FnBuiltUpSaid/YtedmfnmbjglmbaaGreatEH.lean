/-
  The engine, part H: short names for the printed texts.
  Nothing here names a program.
-/
import Derived.Test.YtedmfnmbjglmbaaGreatEF
namespace Go.Proofs.YtedmfnmbjglmbaaGreat.Eng
open Go.RowKit (Below wrap64)
set_option linter.unusedVariables false
set_option linter.unusedSimpArgs false

variable {g:G} {k:List Item} {ops:Array Oper} {rest:List Oper} {l:Env} {Ψ0 H0:Hp} {B0:List Nat} {w0:av Ψ0 H0 B0} {Φ Φ':Hp} {O:fT} {L:List (List Nat)} {w w':World} {S:World→Prop}

def dq (o:Oper) (n:Nat):Option Nat:=match o.guard,o.dst with
  | none,some d=>bif Nat.blt d n then some d else none
  | _,_=>none
theorem bO {o:Oper} {n d:Nat} (h:dq o n=some d):o.guard=none∧o.dst=some d∧Nat.blt d n=true:=by
  unfold dq at h
  split at h
  · rename_i d' hg hd
    cases hb:Nat.blt d' n with
    | false=>simp [hb] at h
    | true=>simp only [hb,cond_true,Option.some.injEq] at h; subst h; exact ⟨hg,hd,hb⟩
  · cases h
def dz (o:Oper):Bool:=match o.guard,o.dst with
  | none,none=>true
  | _,_=>false
theorem oC {o:Oper} (h:dz o=true):o.guard=none∧o.dst=none:=by
  unfold dz at h
  split at h
  · exact ⟨by assumption,by assumption⟩
  · cases h

section
variable {o:Oper} {d:Nat}
theorem lq {v:Value} (hop:OpQ g.P o.op l S v) (hd:dq o g.n=some d) (h:WL g k ops rest ((d,v) :: l) S):WL g k ops (o :: rest) l S:=
  WL.q hop (bO hd).1 (bO hd).2.1 (bO hd).2.2 h
theorem ln {v:Nat→Value} {T:Nat→World→Prop} (hop:OpN g.P o.op l S v T) (hd:dq o g.n=some d) (h:∀ b,WL g k ops rest ((d,v b) :: l) (T b)):WL g k ops (o :: rest) l S:=
  WL.n hop (bO hd).1 (bO hd).2.1 (bO hd).2.2 h
theorem le' {Q:Value→Hp→List Nat→Prop} {T:Value→Hp→List Nat→World→Prop} (hop:OpE g.P o.op l S Q T) (hd:dq o g.n=some d) (h:∀ v Φ' D,Q v Φ' D→WL g k ops rest ((d,v) :: l) (T v Φ' D)):WL g k ops (o :: rest) l S:=
  WL.e hop (bO hd).1 (bO hd).2.1 (bO hd).2.2 h
theorem ls {T:World→Prop} (hop:OpS g.P o.op l S T) (hd:dz o=true) (h:WL g k ops rest l T):WL g k ops (o :: rest) l S:=WL.s hop (oC hd).1 (oC hd).2 h
theorem lu {Q:Hp→List Nat→Prop} {T:Hp→List Nat→World→Prop} (hop:OpU g.P o.op l S Q T) (hd:dz o=true) (h:∀ Φ' D,Q Φ' D→WL g k ops rest l (T Φ' D)):WL g k ops (o :: rest) l S:=WL.u hop (oC hd).1 (oC hd).2 h
theorem lc {Q:Value→Hp→List (List Nat)→Prop} {T:Value→Hp→List (List Nat)→World→Prop} (hop:OpK g.P o.op l S Q T) (hd:dq o g.n=some d) (h:∀ v Φ' D,Q v Φ' D→WL g k ops rest ((d,v) :: l) (T v Φ' D)):WL g k ops (o :: rest) l S:=
  WL.ca hop (bO hd).1 (bO hd).2.1 (bO hd).2.2 h
theorem lp {v:Value} (hop:OpP g.P o.op l S v) (hd:dq o g.n=some d) (h:WL g k ops rest ((d,v) :: l) S):WL g k ops (o :: rest) l S:=
  WL.p hop (bO hd).1 (bO hd).2.1 (bO hd).2.2 h
theorem qq {v:Value} (hop:OpQ g.P o.op l S v) (hd:dq o g.n=some d) (h:WQ g k ops rest ((d,v) :: l) S):WQ g k ops (o :: rest) l S:=
  WQ.q hop (bO hd).1 (bO hd).2.1 (bO hd).2.2 h
theorem qp {v:Value} (hop:OpP g.P o.op l S v) (hd:dq o g.n=some d) (h:WQ g k ops rest ((d,v) :: l) S):WQ g k ops (o :: rest) l S:=
  WQ.p hop (bO hd).1 (bO hd).2.1 (bO hd).2.2 h

variable {kp:Nat→Bool} {fuel:Nat} {done:List Nat} {Sw:World→Prop} {i:Nat}
theorem mq {v:Value} (i:Nat) (hi:ops[i]?=some o) (hB:qB ops kp done i=true) (hS:∀ w,Sw w→S w) (hop:OpQ g.P o.op l S v) (hd:dq o g.n=some d)
    (h:WM g k ops S kp fuel (i :: done) ((d,v) :: l) Sw):WM g k ops S kp (fuel+1) done l Sw:=WM.q i hi hB hS hop (bO hd).1 (bO hd).2.1 (bO hd).2.2 h
theorem me {Q:Value→Hp→List Nat→Prop} {T:Value→Hp→List Nat→World→Prop} (hi:ops[i]?=some o) (hkeep:kp i=true→∀ v Φ' D w,Q v Φ' D→T v Φ' D w→S w) (hop:OpE g.P o.op l Sw Q T) (hd:dq o g.n=some d)
    (h:∀ v Φ' D,Q v Φ' D→WM g k ops S kp fuel (i :: done) ((d,v) :: l) (T v Φ' D)):WI g k ops S kp fuel done i l Sw:=WI.e hi hkeep hop (bO hd).1 (bO hd).2.1 (bO hd).2.2 h
theorem ms {T:World→Prop} (hi:ops[i]?=some o) (hkeep:kp i=true→∀ w,T w→S w) (hop:OpS g.P o.op l Sw T) (hd:dz o=true)
    (h:WM g k ops S kp fuel (i :: done) l T):WI g k ops S kp fuel done i l Sw:=WI.s hi hkeep hop (oC hd).1 (oC hd).2 h
theorem mu {Q:Hp→List Nat→Prop} {T:Hp→List Nat→World→Prop} (hi:ops[i]?=some o) (hkeep:kp i=true→∀ Φ' D w,Q Φ' D→T Φ' D w→S w) (hop:OpU g.P o.op l Sw Q T) (hd:dz o=true)
    (h:∀ Φ' D,Q Φ' D→WM g k ops S kp fuel (i :: done) l (T Φ' D)):WI g k ops S kp fuel done i l Sw:=WI.u hi hkeep hop (oC hd).1 (oC hd).2 h
theorem mc {Q:Value→Hp→List (List Nat)→Prop} {T:Value→Hp→List (List Nat)→World→Prop} (hi:ops[i]?=some o) (hkeep:kp i=true→∀ v Φ' D w,Q v Φ' D→T v Φ' D w→S w) (hop:OpK g.P o.op l Sw Q T) (hd:dq o g.n=some d)
    (h:∀ v Φ' D,Q v Φ' D→WM g k ops S kp fuel (i :: done) ((d,v) :: l) (T v Φ' D)):WI g k ops S kp fuel done i l Sw:=WI.ca hi hkeep hop (bO hd).1 (bO hd).2.1 (bO hd).2.2 h
theorem mp {v:Value} (hi:ops[i]?=some o) (hkeep:kp i=true→∀ w,Sw w→S w) (hop:OpP g.P o.op l Sw v) (hd:dq o g.n=some d)
    (h:WM g k ops S kp fuel (i :: done) ((d,v) :: l) Sw):WI g k ops S kp fuel done i l Sw:=WI.p hi hkeep hop (bO hd).1 (bO hd).2.1 (bO hd).2.2 h
end

theorem St.merge {js:List Nat} {As R:List (List Nat)} {F:List Nat} (h:St w0 Φ O L w) (hp:Eng.pick js L=some (As,R)) (hs:SP F As.flatten):St w0 Φ O (F :: R) w:=by
  have:=h.re (Bs:=[F]) hp (by simpa using hs)
  exact this
theorem WL.frz {js:List Nat} {R:fT} {b:Nat} {ob:Obj} (hp:Eng.pick js O=some ([(b,ob)],R)) (h:∀ Φ',FrH [] Φ Φ'→Φ' b=some ob→WL g k ops rest l (St w0 Φ' R ([b] :: L))):WL g k ops rest l (St w0 Φ O L):=fun a w hf hw=>by
  obtain ⟨h1,h2⟩:=hw.freeze hp
  exact h _ h1 (by simp [za]) a w hf h2
theorem WM.frz {kp:Nat→Bool} {fuel:Nat} {done:List Nat} {js:List Nat} {R:fT} {b:Nat} {ob:Obj} (hp:Eng.pick js O=some ([(b,ob)],R)) (h:∀ Φ',FrH [] Φ Φ'→Φ' b=some ob→WM g k ops S kp fuel done l (St w0 Φ' R ([b] :: L))):WM g k ops S kp fuel done l (St w0 Φ O L):=fun a w hf hw=>by
  obtain ⟨h1,h2⟩:=hw.freeze hp
  exact h _ h1 (by simp [za]) a w hf h2
theorem WT.frz {js:List Nat} {R:fT} {b:Nat} {ob:Obj} (hp:Eng.pick js O=some ([(b,ob)],R)) (h:∀ Φ',FrH [] Φ Φ'→Φ' b=some ob→WT g k l (St w0 Φ' R ([b] :: L))):WT g k l (St w0 Φ O L):=fun a w hf hw=>by
  obtain ⟨h1,h2⟩:=hw.freeze hp
  exact h _ h1 (by simp [za]) a w hf h2
theorem WL.thw {js:List Nat} {R:List (List Nat)} {b:Nat} {ob:Obj} (hp:Eng.pick js L=some ([[b]],R)) (hb:Φ b=some ob) (h:∀ Φ',Ap w0 O [[b]] R→FrH [[b]].flatten Φ Φ'→WL g k ops rest l (St w0 Φ' ((b,ob) :: O) R)):WL g k ops rest l (St w0 Φ O L):=fun a w hf hw=>by
  obtain ⟨h1,h2⟩:=hw.thaw hp hb
  exact h _ (hw.ap hp) h1 a w hf h2
theorem WT.thw {js:List Nat} {R:List (List Nat)} {b:Nat} {ob:Obj} (hp:Eng.pick js L=some ([[b]],R)) (hb:Φ b=some ob) (h:∀ Φ',Ap w0 O [[b]] R→FrH [[b]].flatten Φ Φ'→WT g k l (St w0 Φ' ((b,ob) :: O) R)):WT g k l (St w0 Φ O L):=fun a w hf hw=>by
  obtain ⟨h1,h2⟩:=hw.thaw hp hb
  exact h _ (hw.ap hp) h1 a w hf h2
theorem WM.thw {kp:Nat→Bool} {fuel:Nat} {done:List Nat} {js:List Nat} {R:List (List Nat)} {b:Nat} {ob:Obj} (hp:Eng.pick js L=some ([[b]],R)) (hb:Φ b=some ob) (h:∀ Φ',Ap w0 O [[b]] R→FrH [[b]].flatten Φ Φ'→WM g k ops S kp fuel done l (St w0 Φ' ((b,ob) :: O) R)):WM g k ops S kp fuel done l (St w0 Φ O L):=fun a w hf hw=>by
  obtain ⟨h1,h2⟩:=hw.thaw hp hb
  exact h _ (hw.ap hp) h1 a w hf h2
theorem fX {Φ:Hp} {b T:Nat} {cs:List Value} {fz:Nat × Nat} (h:Φ b=some (.cells cs.toArray T fz)):rg Φ b 0 cs:=⟨_,_,_,h,fun j v hj=>by simpa using hj⟩
end Go.Proofs.YtedmfnmbjglmbaaGreat.Eng
