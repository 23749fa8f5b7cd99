/-
  The engine, part H: short names for the printed texts.
  Nothing here names a program.
-/
import Derived.Test.YtedmfnmbjglmbaaGreatEF
namespace Go.Proofs.YtedmfnmbjglmbaaGreat.Eng
open Go.RowKit (Below wrap64)
set_option linter.unusedVariables false
set_option linter.unusedSimpArgs false

variable {g:G} {k:List Item} {ops:Array Oper} {rest:List Oper} {l:Env} {Ψ0 H0:Hp} {B0:List Nat} {w0:aD Ψ0 H0 B0} {Φ Φ':Hp} {O:gY} {L:List (List Nat)} {w w':World} {S:World→Prop}

def dq (o:Oper) (n:Nat):Option Nat:=match o.guard,o.dst with
  | none,some d=>bif Nat.blt d n then some d else none
  | _,_=>none
theorem c8 {o:Oper} {n d:Nat} (h:dq o n=some d):o.guard=none∧o.dst=some d∧Nat.blt d n=true:=by
  unfold dq at h
  split at h
  · rename_i b c e
    cases a:Nat.blt b n with
    | false=>simp[a] at h
    | true=>simp only[a,cond_true,Option.some.injEq] at h;subst h;exact⟨c,e,a⟩
  · cases h
def dz (o:Oper):Bool:=match o.guard,o.dst with
  | none,none=>true
  | _,_=>false
theorem qf {o:Oper} (h:dz o=true):o.guard=none∧o.dst=none:=by
  unfold dz at h
  split at h
  · exact⟨by assumption,by assumption⟩
  · cases h

section
variable {o:Oper} {d:Nat}
theorem lq {v:Value} (b:OpQ g.P o.op l S v) (a:dq o g.n=some d) (h:WL g k ops rest ((d,v) :: l) S):WL g k ops (o :: rest) l S:=
  WL.q b (c8 a).1 (c8 a).2.1 (c8 a).2.2 h
theorem ln {v:Nat→Value} {T:Nat→World→Prop} (c:OpN g.P o.op l S v T) (a:dq o g.n=some d) (h:∀ b,WL g k ops rest ((d,v b) :: l) (T b)):WL g k ops (o :: rest) l S:=
  WL.n c (c8 a).1 (c8 a).2.1 (c8 a).2.2 h
theorem le' {Q:Value→Hp→List Nat→Prop} {T:Value→Hp→List Nat→World→Prop} (b:OpE g.P o.op l S Q T) (a:dq o g.n=some d) (h:∀ v Φ' D,Q v Φ' D→WL g k ops rest ((d,v) :: l) (T v Φ' D)):WL g k ops (o :: rest) l S:=
  WL.e b (c8 a).1 (c8 a).2.1 (c8 a).2.2 h
theorem ls {T:World→Prop} (b:OpS g.P o.op l S T) (a:dz o=true) (h:WL g k ops rest l T):WL g k ops (o :: rest) l S:=WL.s b (qf a).1 (qf a).2 h
theorem lu {Q:Hp→List Nat→Prop} {T:Hp→List Nat→World→Prop} (b:OpU g.P o.op l S Q T) (a:dz o=true) (h:∀ Φ' D,Q Φ' D→WL g k ops rest l (T Φ' D)):WL g k ops (o :: rest) l S:=WL.u b (qf a).1 (qf a).2 h
theorem lc {Q:Value→Hp→List (List Nat)→Prop} {T:Value→Hp→List (List Nat)→World→Prop} (b:OpK g.P o.op l S Q T) (a:dq o g.n=some d) (h:∀ v Φ' D,Q v Φ' D→WL g k ops rest ((d,v) :: l) (T v Φ' D)):WL g k ops (o :: rest) l S:=
  WL.ca b (c8 a).1 (c8 a).2.1 (c8 a).2.2 h
theorem lp {v:Value} (b:OpP g.P o.op l S v) (a:dq o g.n=some d) (h:WL g k ops rest ((d,v) :: l) S):WL g k ops (o :: rest) l S:=
  WL.p b (c8 a).1 (c8 a).2.1 (c8 a).2.2 h
theorem qq {v:Value} (b:OpQ g.P o.op l S v) (a:dq o g.n=some d) (h:WQ g k ops rest ((d,v) :: l) S):WQ g k ops (o :: rest) l S:=
  WQ.q b (c8 a).1 (c8 a).2.1 (c8 a).2.2 h
theorem qp {v:Value} (b:OpP g.P o.op l S v) (a:dq o g.n=some d) (h:WQ g k ops rest ((d,v) :: l) S):WQ g k ops (o :: rest) l S:=
  WQ.p b (c8 a).1 (c8 a).2.1 (c8 a).2.2 h

variable {kp:Nat→Bool} {fuel:Nat} {done:List Nat} {Sw:World→Prop} {i:Nat}
theorem mq {v:Value} (i:Nat) (b:ops[i]?=some o) (c:qB ops kp done i=true) (e:∀ w,Sw w→S w) (f:OpQ g.P o.op l S v) (a:dq o g.n=some d)
    (h:WM g k ops S kp fuel (i :: done) ((d,v) :: l) Sw):WM g k ops S kp (fuel+1) done l Sw:=WM.q i b c e f (c8 a).1 (c8 a).2.1 (c8 a).2.2 h
theorem mn {v:Nat→Value} {T:Nat→World→Prop} (c:ops[i]?=some o) (e:kp i=true→∀ b w,T b w→S w) (f:OpN g.P o.op l Sw v T) (a:dq o g.n=some d)
    (h:∀ b,WM g k ops S kp fuel (i :: done) ((d,v b) :: l) (T b)):WI g k ops S kp fuel done i l Sw:=WI.n c e f (c8 a).1 (c8 a).2.1 (c8 a).2.2 h
theorem me {Q:Value→Hp→List Nat→Prop} {T:Value→Hp→List Nat→World→Prop} (b:ops[i]?=some o) (c:kp i=true→∀ v Φ' D w,Q v Φ' D→T v Φ' D w→S w) (e:OpE g.P o.op l Sw Q T) (a:dq o g.n=some d)
    (h:∀ v Φ' D,Q v Φ' D→WM g k ops S kp fuel (i :: done) ((d,v) :: l) (T v Φ' D)):WI g k ops S kp fuel done i l Sw:=WI.e b c e (c8 a).1 (c8 a).2.1 (c8 a).2.2 h
theorem ms {T:World→Prop} (b:ops[i]?=some o) (c:kp i=true→∀ w,T w→S w) (d:OpS g.P o.op l Sw T) (a:dz o=true)
    (h:WM g k ops S kp fuel (i :: done) l T):WI g k ops S kp fuel done i l Sw:=WI.s b c d (qf a).1 (qf a).2 h
theorem mu {Q:Hp→List Nat→Prop} {T:Hp→List Nat→World→Prop} (b:ops[i]?=some o) (c:kp i=true→∀ Φ' D w,Q Φ' D→T Φ' D w→S w) (d:OpU g.P o.op l Sw Q T) (a:dz o=true)
    (h:∀ Φ' D,Q Φ' D→WM g k ops S kp fuel (i :: done) l (T Φ' D)):WI g k ops S kp fuel done i l Sw:=WI.u b c d (qf a).1 (qf a).2 h
theorem mc {Q:Value→Hp→List (List Nat)→Prop} {T:Value→Hp→List (List Nat)→World→Prop} (b:ops[i]?=some o) (c:kp i=true→∀ v Φ' D w,Q v Φ' D→T v Φ' D w→S w) (e:OpK g.P o.op l Sw Q T) (a:dq o g.n=some d)
    (h:∀ v Φ' D,Q v Φ' D→WM g k ops S kp fuel (i :: done) ((d,v) :: l) (T v Φ' D)):WI g k ops S kp fuel done i l Sw:=WI.ca b c e (c8 a).1 (c8 a).2.1 (c8 a).2.2 h
theorem mp {v:Value} (b:ops[i]?=some o) (c:kp i=true→∀ w,Sw w→S w) (e:OpP g.P o.op l Sw v) (a:dq o g.n=some d)
    (h:WM g k ops S kp fuel (i :: done) ((d,v) :: l) Sw):WI g k ops S kp fuel done i l Sw:=WI.p b c e (c8 a).1 (c8 a).2.1 (c8 a).2.2 h
end

theorem St.merge {js:List Nat} {As R:List (List Nat)} {F:List Nat} (h:St w0 Φ O L w) (hp:Eng.pick js L=some (As,R)) (a:SP F As.flatten):St w0 Φ O (F :: R) w:=by
  have:=h.re (Bs:=[F]) hp (by simpa using a)
  exact this
theorem WL.frz {js:List Nat} {R:gY} {b:Nat} {ob:Obj} (hp:Eng.pick js O=some ([(b,ob)],R)) (h:∀ Φ',FrH [] Φ Φ'→Φ' b=some ob→WL g k ops rest l (St w0 Φ' R ([b] :: L))):WL g k ops rest l (St w0 Φ O L):=fun a w c hw=>by
  obtain⟨h1,d⟩:=hw.freeze hp
  exact h _ h1 (by simp[Az]) a w c d
theorem WM.frz {kp:Nat→Bool} {fuel:Nat} {done:List Nat} {js:List Nat} {R:gY} {b:Nat} {ob:Obj} (hp:Eng.pick js O=some ([(b,ob)],R)) (h:∀ Φ',FrH [] Φ Φ'→Φ' b=some ob→WM g k ops S kp fuel done l (St w0 Φ' R ([b] :: L))):WM g k ops S kp fuel done l (St w0 Φ O L):=fun a w c hw=>by
  obtain⟨h1,d⟩:=hw.freeze hp
  exact h _ h1 (by simp[Az]) a w c d
theorem WT.frz {js:List Nat} {R:gY} {b:Nat} {ob:Obj} (hp:Eng.pick js O=some ([(b,ob)],R)) (h:∀ Φ',FrH [] Φ Φ'→Φ' b=some ob→WT g k l (St w0 Φ' R ([b] :: L))):WT g k l (St w0 Φ O L):=fun a w c hw=>by
  obtain⟨h1,d⟩:=hw.freeze hp
  exact h _ h1 (by simp[Az]) a w c d
theorem WL.thw {js:List Nat} {R:List (List Nat)} {b:Nat} {ob:Obj} (hp:Eng.pick js L=some ([[b]],R)) (c:Φ b=some ob) (h:∀ Φ',Ap w0 O [[b]] R→FrH [[b]].flatten Φ Φ'→WL g k ops rest l (St w0 Φ' ((b,ob) :: O) R)):WL g k ops rest l (St w0 Φ O L):=fun a w d hw=>by
  obtain⟨h1,e⟩:=hw.thaw hp c
  exact h _ (hw.ap hp) h1 a w d e
theorem WT.thw {js:List Nat} {R:List (List Nat)} {b:Nat} {ob:Obj} (hp:Eng.pick js L=some ([[b]],R)) (c:Φ b=some ob) (h:∀ Φ',Ap w0 O [[b]] R→FrH [[b]].flatten Φ Φ'→WT g k l (St w0 Φ' ((b,ob) :: O) R)):WT g k l (St w0 Φ O L):=fun a w d hw=>by
  obtain⟨h1,e⟩:=hw.thaw hp c
  exact h _ (hw.ap hp) h1 a w d e
theorem WM.thw {kp:Nat→Bool} {fuel:Nat} {done:List Nat} {js:List Nat} {R:List (List Nat)} {b:Nat} {ob:Obj} (hp:Eng.pick js L=some ([[b]],R)) (c:Φ b=some ob) (h:∀ Φ',Ap w0 O [[b]] R→FrH [[b]].flatten Φ Φ'→WM g k ops S kp fuel done l (St w0 Φ' ((b,ob) :: O) R)):WM g k ops S kp fuel done l (St w0 Φ O L):=fun a w d hw=>by
  obtain⟨h1,e⟩:=hw.thaw hp c
  exact h _ (hw.ap hp) h1 a w d e
theorem bP {Φ:Hp} {b T:Nat} {cs:List Value} {a:Nat × Nat} (h:Φ b=some (.cells cs.toArray T a)):rg Φ b 0 cs:=⟨_,_,_,h,fun j v c=>by simpa using c⟩
end Go.Proofs.YtedmfnmbjglmbaaGreat.Eng
