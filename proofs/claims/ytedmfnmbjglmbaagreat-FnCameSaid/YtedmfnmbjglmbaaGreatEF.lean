/-
  The engine, part F: a region that draws its order and in which some operations change the world; loops, meetings.
  Nothing here names a program.
-/
import Derived.Test.YtedmfnmbjglmbaaGreatEE
import Derived.OrdersHeld
import Derived.Still
namespace Go.Proofs.YtedmfnmbjglmbaaGreat.Eng
open Go.RowKit (Below wrap64)
set_option linter.unusedVariables false
set_option linter.unusedSimpArgs false

section mixed
variable {P:Program} {ops:Array Oper} {Q:Exit→Act→World→Prop} {md:Region.Mode} {S:World→Prop} {kp:Nat→Bool}

def qC (P:Program) (md:Region.Mode) (ops:Array Oper) (Q:Exit→Act→World→Prop) (S:World→Prop) (kp:Nat→Bool):Nat→Array Bool→Act→World→Prop
  | 0,b,a,w=>Region.ready md ops b=[]∧Q .normal a w
  | fuel+1,b,a,w=>
    (Region.ready md ops b=[]→Q .normal a w) ∧
    ∀ i∈Region.ready md ops b,wpOp P ops Q i (fun c w'=>(kp i=true→S w')∧qC P md ops Q S kp fuel (b.setIfInBounds i true) c w') a w

theorem yZ:∀ (fuel:Nat) (b:Array Bool) (a:Act) (w:World),qC P md ops Q S kp fuel b a w→wpAny P md ops Q fuel b a w
  | 0,_,_,_,h=>h
  | fuel+1,_,_,_,h=>⟨h.1,fun i c=>wpOp_mono (fun d w' e=>yZ fuel _ d w' e.2) (h.2 i c)⟩

theorem Au {i:Nat} {g:Oper} {v:Value} (s:ops[i]?=some g) (u:∀ (j:Nat) (o:Oper) cs b,ops[j]?=some o→o.op ≠ .select cs b)
    (C:∀ c a w,Q (.panic c) (a.put g.dst v) w→Q (.panic c) a w) :
    ∀ (fuel:Nat) (d:Array Bool) (a:Act) (w:World),
      (∀ j l,ops[j]?=some l→j≠i→d.getD j true=false→(∀ e∈l.after,Region.binds md e=true→e.on≠i)→g.apart ops l=true∧kp j=true) →
      i∈Region.ready md ops d→YieldsIf P ops S g v a→S w →
      qC P md ops Q S kp fuel (d.setIfInBounds i true) (a.put g.dst v) w→qC P md ops Q S kp (fuel+1) d a w:=by
  intro fuel
  induction fuel with
  | zero=>
    intro d a w _ m p n H
    refine⟨fun h=>(by rw[h] at m;cases m),fun j q=>?_⟩
    by_cases f:j=i
    · subst f;exact p.wpOp s n ⟨fun _=>n,H⟩
    · have:=ready_mono q f
      rw[H.1] at this
      cases this
  | succ fuel D=>
    intro d a w x m p n H
    refine⟨fun h=>(by rw[h] at m;cases m),fun j q=>?_⟩
    by_cases f:j=i
    · subst f;exact p.wpOp s n ⟨fun _=>n,H⟩
    · have h1:=H.2 j (ready_mono q f)
      obtain⟨y,l,t,E⟩:=mem_ready.1 q
      have F:∀ e∈l.after,Region.binds md e=true→e.on≠i:=fun e he G heq=>by
        have h1:=E e he G
        have z:=(mem_ready.1 m).1
        rw[heq] at h1
        rcases Nat.lt_or_ge i d.size with h' | h'
        · simp[h'] at z h1;rw[z] at h1;cases h1
        · simp[Array.getElem?_eq_none h'] at h1
      obtain⟨I,K⟩:=x j l t f y F
      have L:=wpOp_putIf t I (fun cs b=>u i g cs b s) (fun cs b=>u j l cs b t) C p h1
      have M:∀ k ok,ops[k]?=some ok→k≠i→(d.setIfInBounds j true).getD k true=false →
          (∀ e∈ok.after,Region.binds md e=true→e.on≠i)→g.apart ops ok=true∧kp k=true:=fun k ok hk N A O=>by
        refine x k ok hk N ?_ O
        by_cases B:j=k
        · subst B;exact y
        · rw[getD_set_ne true B] at A;exact A
      refine wpOp_mono (fun R w' r=>⟨r.2.1,D (d.setIfInBounds j true) R w' M (ready_mono m (Ne.symm f)) r.1 (r.2.1 K) ?_⟩) L
      rw[Array.setIfInBounds_comm _ _ f]
      exact r.2.2
end mixed

variable {g:G} {k:List Item} {ops:Array Oper} {rest:List Oper} {l:Env} {Ψ0 H0:Hp} {B0:List Nat} {w0:aD Ψ0 H0 B0} {Φ Φ':Hp} {O:gY} {L:List (List Nat)} {w w':World} {S:World→Prop}

def lst (ops:Array Oper) (done:List Nat):Array Bool:=done.foldr (fun i a=>a.setIfInBounds i true) (Array.replicate ops.size false)

def WM (g:G) (k:List Item) (ops:Array Oper) (S:World→Prop) (kp:Nat→Bool) (fuel:Nat) (done:List Nat) (l:Env) (Sw:World→Prop):Prop:=
  ∀ a w,Fr g.n l a→Sw w→qC g.P .any ops (QK (At g k)) S kp fuel (lst ops done) a w

theorem WT.mix {id:Nat} {os:List Oper} (S:World→Prop) (kp:Nat→Bool) {Sw:World→Prop} (hm:g.P.follows .mixedOrders=true) (b:∀ w,Sw w→Sw w.drew) (h:WM g k os.toArray S kp os.length [] l Sw) :
    WT g (.code (.region id os.toArray true) :: k) l Sw:=fun a w c hw=>
  At.of_wp (wp_region_any hm (by
    have:=yZ _ _ _ _ (h a _ c (b w hw))
    simpa[lst] using this))

def qB (ops:Array Oper) (kp:Nat→Bool) (done:List Nat) (i:Nat):Bool:=
  Region.noSelect ops && (Region.ready .any ops (lst ops done)).contains i &&
  (match ops[i]? with
   | some b=>(List.range ops.size).all fun j=>j == i || (lst ops done).getD j true || (match ops[j]? with | some a=>a.after.any (fun e=>Region.binds .any e && e.on == i) || (b.apart ops a && kp j) | none=>true)
   | none=>false)

theorem Iq0 {kp:Nat→Bool} {done:List Nat} {i:Nat} {d:Oper} (g:ops[i]?=some d) (h:qB ops kp done i=true) :
    Region.noSelect ops=true∧i∈Region.ready .any ops (lst ops done) ∧
    (∀ j b,ops[j]?=some b→j≠i→(lst ops done).getD j true=false→(∀ e∈b.after,Region.binds .any e=true→e.on≠i)→d.apart ops b=true∧kp j=true):=by
  unfold qB at h
  simp only[g,Bool.and_eq_true] at h
  obtain⟨⟨h1,k⟩,h3⟩:=h
  refine⟨h1,by simpa using k,fun j b f l m n=>?_⟩
  rw[List.all_eq_true] at h3
  have o:j < ops.size:=(Array.getElem?_eq_some_iff.1 f).1
  have a:=h3 j (List.mem_range.2 o)
  have p:(j == i)=false:=by simpa using l
  simp only[p,m,Bool.false_or,f,Bool.or_eq_true] at a
  rcases a with a | a
  · rw[Array.any_eq_true] at a
    obtain⟨x,q,c⟩:=a
    simp only[Bool.and_eq_true,beq_iff_eq] at c
    exact absurd c.2 (n _ (Array.getElem_mem q) c.1)
  · simpa using a

theorem fY (done:List Nat) (i:Nat):(lst ops done).setIfInBounds i true=lst ops (i :: done):=rfl

theorem WM.q {kp:Nat→Bool} {fuel:Nat} {done:List Nat} {Sw:World→Prop} {o:Oper} {d:Nat} {v:Value} (i:Nat) (b:ops[i]?=some o) (f:qB ops kp done i=true) (j:∀ w,Sw w→S w)
    (m:OpQ g.P o.op l S v) (n:o.guard=none) (p:o.dst=some d) (q:Nat.blt d g.n=true)
    (h:WM g k ops S kp fuel (i :: done) ((d,v) :: l) Sw):WM g k ops S kp (fuel+1) done l Sw:=fun a w e hw=>by
  obtain⟨h1,r,s⟩:=Iq0 b f
  refine Au b (Region.noSelect_spec h1) (fun c a w h=>h) fuel _ a w s r (v:=v) (.inl ⟨by simp[Region.wanted,n],fun w hw=>m g.n a w o rfl e hw⟩) (j w hw) ?_
  rw[p,fY]
  exact h _ w (e.put q v) hw


section eff
variable {kp:Nat→Bool} {fuel:Nat} {done:List Nat} {Sw:World→Prop} {o:Oper} {d:Nat}

def WI (g:G) (k:List Item) (ops:Array Oper) (S:World→Prop) (kp:Nat→Bool) (fuel:Nat) (done:List Nat) (i:Nat) (l:Env) (Sw:World→Prop):Prop:=
  ∀ a w,Eng.Fr g.n l a→Sw w→wpOp g.P ops (QK (At g k)) i (fun b w'=>(kp i=true→S w')∧qC g.P .any ops (QK (At g k)) S kp fuel ((lst ops done).setIfInBounds i true) b w') a w

theorem WM.one (i:Nat) (b:Region.ready .any ops (lst ops done)=[i]) (h:WI g k ops S kp fuel done i l Sw):WM g k ops S kp (fuel+1) done l Sw:=fun a w e hw=>by
  refine⟨fun c=>(by rw[b] at c;cases c),fun j d=>?_⟩
  rw[b] at d
  obtain rfl:j=i:=by simpa using d
  exact h a w e hw
theorem WM.two (i j:Nat) (b:Region.ready .any ops (lst ops done)=[i,j]) (h:WI g k ops S kp fuel done i l Sw) (e:WI g k ops S kp fuel done j l Sw):WM g k ops S kp (fuel+1) done l Sw:=fun a w c hw=>by
  refine⟨fun d=>(by rw[b] at d;cases d),fun m hm=>?_⟩
  rw[b] at hm
  rcases hE.1 hm with rfl | hm
  · exact h a w c hw
  · obtain rfl:m=j:=by simpa using hm
    exact e a w c hw
theorem WM.three (i j m:Nat) (d:Region.ready .any ops (lst ops done)=[i,j,m]) (h:WI g k ops S kp fuel done i l Sw) (f:WI g k ops S kp fuel done j l Sw) (n:WI g k ops S kp fuel done m l Sw):WM g k ops S kp (fuel+1) done l Sw:=fun a w c hw=>by
  refine⟨fun e=>(by rw[d] at e;cases e),fun q b=>?_⟩
  rw[d] at b
  rcases hE.1 b with rfl | b
  · exact h a w c hw
  · rcases hE.1 b with rfl | b
    · exact f a w c hw
    · obtain rfl:q=m:=by simpa using b
      exact n a w c hw

theorem WI.of (i:Nat) (b:ops[i]?=some o) (c:o.guard=none) (h:∀ a w,Eng.Fr g.n l a→Sw w→o.wp g.P a w (fun d w'=>(kp i=true→S w')∧qC g.P .any ops (QK (At g k)) S kp fuel ((lst ops done).setIfInBounds i true) d w') (QK (At g k))) :
    WI g k ops S kp fuel done i l Sw:=fun a w e hw=>by
  unfold wpOp
  simp only[b,Region.wanted,c,if_true]
  exact .inl (h a w e hw)

theorem WI.n {v:Nat→Value} {T:Nat→World→Prop} {i:Nat} (f:ops[i]?=some o) (j:kp i=true→∀ b w,T b w→S w) (m:OpN g.P o.op l Sw v T) (n:o.guard=none) (p:o.dst=some d) (q:Nat.blt d g.n=true)
    (h:∀ b,WM g k ops S kp fuel (i :: done) ((d,v b) :: l) (T b)):WI g k ops S kp fuel done i l Sw:=WI.of i f n fun a w c hw=>by
  obtain⟨b,w',h1,e⟩:=m g.n a w o rfl c hw
  unfold Oper.wp
  rw[h1,Oper.upon_value,p]
  exact⟨fun hk=>j hk b w' e,by rw[fY];exact h b _ _ (c.put q (v b)) e⟩
theorem WI.e {Q:Value→Hp→List Nat→Prop} {T:Value→Hp→List Nat→World→Prop} {i:Nat} (f:ops[i]?=some o) (j:kp i=true→∀ v Φ' D w,Q v Φ' D→T v Φ' D w→S w) (m:OpE g.P o.op l Sw Q T) (n:o.guard=none) (p:o.dst=some d) (q:Nat.blt d g.n=true)
    (h:∀ v Φ' D,Q v Φ' D→WM g k ops S kp fuel (i :: done) ((d,v) :: l) (T v Φ' D)):WI g k ops S kp fuel done i l Sw:=WI.of i f n fun a w b hw=>by
  obtain⟨v,Φ',D,w',h1,c,e⟩:=m g.n a w o rfl b hw
  unfold Oper.wp
  rw[h1,Oper.upon_value,p]
  exact⟨fun hk=>j hk v Φ' D w' c e,by rw[fY];exact h v Φ' D c _ _ (b.put q v) e⟩
theorem WI.s {T:World→Prop} {i:Nat} (d:ops[i]?=some o) (e:kp i=true→∀ w,T w→S w) (f:OpS g.P o.op l Sw T) (j:o.guard=none) (m:o.dst=none)
    (h:WM g k ops S kp fuel (i :: done) l T):WI g k ops S kp fuel done i l Sw:=WI.of i d j fun a w b hw=>by
  obtain⟨w',h1,c⟩:=f g.n a w o rfl b hw
  unfold Oper.wp
  rw[h1,Oper.upon_skip,m]
  exact⟨fun hk=>e hk w' c,by rw[fY];exact h _ _ (b.put_none undef) c⟩
theorem WI.u {Q:Hp→List Nat→Prop} {T:Hp→List Nat→World→Prop} {i:Nat} (e:ops[i]?=some o) (f:kp i=true→∀ Φ' D w,Q Φ' D→T Φ' D w→S w) (j:OpU g.P o.op l Sw Q T) (m:o.guard=none) (n:o.dst=none)
    (h:∀ Φ' D,Q Φ' D→WM g k ops S kp fuel (i :: done) l (T Φ' D)):WI g k ops S kp fuel done i l Sw:=WI.of i e m fun a w b hw=>by
  obtain⟨Φ',D,w',h1,c,d⟩:=j g.n a w o rfl b hw
  unfold Oper.wp
  rw[h1,Oper.upon_skip,n]
  exact⟨fun hk=>f hk Φ' D w' c d,by rw[fY];exact h Φ' D c _ _ (b.put_none undef) d⟩
theorem WI.ca {Q:Value→Hp→List (List Nat)→Prop} {T:Value→Hp→List (List Nat)→World→Prop} {i:Nat} (m:ops[i]?=some o) (n:kp i=true→∀ v Φ' D w,Q v Φ' D→T v Φ' D w→S w) (p:OpK g.P o.op l Sw Q T) (q:o.guard=none) (r:o.dst=some d) (s:Nat.blt d g.n=true)
    (h:∀ v Φ' D,Q v Φ' D→WM g k ops S kp fuel (i :: done) ((d,v) :: l) (T v Φ' D)):WI g k ops S kp fuel done i l Sw:=WI.of i m q fun a w b hw=>by
  obtain⟨f,args,h1,t⟩:=p g.n a w o rfl b hw
  unfold Oper.wp
  rw[h1,Oper.upon_enter,r]
  refine t.mono ?_
  rintro e w' ⟨v,Φ',D,rfl,c,j⟩
  exact⟨fun hk=>n hk v Φ' D w' c j,by rw[fY];exact h v Φ' D c _ _ (b.put s v) j⟩
theorem WI.p {v:Value} {i:Nat} (j:ops[i]?=some o) (m:kp i=true→∀ w,Sw w→S w) (n:OpP g.P o.op l Sw v) (p:o.guard=none) (q:o.dst=some d) (r:Nat.blt d g.n=true)
    (h:WM g k ops S kp fuel (i :: done) ((d,v) :: l) Sw):WI g k ops S kp fuel done i l Sw:=WI.of i j p fun a w b hw=>by
  obtain⟨f,args,h1,s⟩:=n g.n a w o rfl b hw
  unfold Oper.wp
  rw[h1,Oper.upon_enter,q]
  refine s.mono ?_
  rintro e w' ⟨rfl,c⟩
  exact⟨fun hk=>m hk w' c,by rw[fY];exact h _ _ (b.put r v) c⟩
end eff

theorem WM.nil {kp:Nat→Bool} {fuel:Nat} {done:List Nat} {Sw:World→Prop} (b:Region.ready .any ops (lst ops done)=[]) (h:WT g k l Sw):WM g k ops S kp fuel done l Sw:=fun a w c hw=>by
  cases fuel with
  | zero=>exact⟨b,h a w c hw⟩
  | succ n=>exact⟨fun _=>h a w c hw,fun i d=>(by rw[b] at d;cases d)⟩

theorem WM.conv {kp:Nat→Bool} {fuel:Nat} {done:List Nat} {Sw S':World→Prop} (b:∀ w,Sw w→S' w) (h:WM g k ops S kp fuel done l S'):WM g k ops S kp fuel done l Sw:=fun a w c hw=>h a w c (b w hw)
theorem WM.cutN {kp:Nat→Bool} {fuel:Nat} {done:List Nat} {Sw:World→Prop} (l':Env) (b:Sub l l') (h:WM g k ops S kp fuel done l' Sw):WM g k ops S kp fuel done l Sw:=fun a w c hw=>h a w (c.mono b.lk) hw

def Kn {Ψ0 H0:Hp} {B0:List Nat} (w0:aD Ψ0 H0 B0) (Φ:Hp) (F:List Nat) (O:gY) (w:World):Prop:=In Ψ0 w∧(∀ k∈F,∀ o,Φ k=some o→w.heap[k]?=some o)∧∀ p∈O,w.heap[p.1]?=some p.2
theorem Kn.of {a:Hp} {F:List Nat} {O':gY} (b:∀ k∈F,∀ o,a k=some o→Φ k=some o) (c:∀ p∈O',p∈O) (h:St w0 Φ O L w):Kn w0 a F O' w:=⟨h.in0,fun k hk o d=>h.fro k o (b k hk o d),fun p hp=>(h.obj p (c p hp)).1⟩
theorem Kn.rgO {F:List Nat} (h:Kn w0 Φ F O w) {i b:Nat} {C:Array Value} {T:Nat} {c:Nat × Nat} (d:O[i]?=some (b,.cells C T c)) (o n:Nat) (cs:List Value) (e:(C.toList.drop o).take n=cs):w.rangeAt b o cs:=by
  have f:w.heap[b]?=some (.cells C T c):=h.2.2 _ (List.mem_of_getElem? d)
  intro j v a
  subst e
  rw[List.getElem?_take] at a
  split at a
  · rw[List.getElem?_drop] at a
    simp only[World.cell?,f]
    simpa using a
  · cases a
theorem Kn.rg {F:List Nat} {b o:Nat} {cs:List Value} (h:Kn w0 Φ F O w) (a:b∈F) (c:rg Φ b o cs):w.rangeAt b o cs:=by
  obtain⟨C,T,f,h1,d⟩:=c
  intro j v e
  simp only[World.cell?,h.2.1 b a _ h1]
  simpa using d j v e
def zT {β:Type} (L:List β):List β→Prop
  | []=>True
  | e :: r=>e∈L∧zT L r
theorem zT.mem {β:Type} {L:List β}:∀ {a:List β},zT L a→∀ e∈a,e∈L
  | [],_,e,he=>by cases he
  | x :: r,h,e,he=>by
    rcases hE.1 he with rfl | he
    · exact h.1
    · exact zT.mem h.2 e he

theorem H1 {σ:Type} {c:Code} (env:σ→Env) (T:σ→World→Prop) (M:Nat→σ→Prop) (a:∀ s,M 0 s→False)
    (b:∀ n,(∀ s,M n s→WT g (.code c :: .inLoop c :: k) (env s) (T s))→∀ s,M (n+1) s→WT g (.code c :: .inLoop c :: k) (env s) (T s)) (n:Nat) (s:σ) (h:M n s):WT g (.code c :: .inLoop c :: k) (env s) (T s):=by
  induction n generalizing s with
  | zero=>exact (a s h).elim
  | succ n d=>exact b n d s h

theorem cut {σ:Type} {c:Code} (env:σ→Env) (T:σ→World→Prop) (M:σ→Prop) (hk:∀ s,M s→WT g k (env s) (T s)) (a:(∀ s,M s→WT g k (env s) (T s))→WT g (.code c :: k) l S):WT g (.code c :: k) l S:=a hk

theorem WL.cutN (n:Nat) (a:Env) (hk:WL g k ops (rest.drop n) a S) (b:WL g k ops (rest.drop n) a S→WL g k ops rest l S):WL g k ops rest l S:=b hk
theorem WQ.cutN (n:Nat) (a:Env) (hk:WQ g k ops (rest.drop n) a S) (b:WQ g k ops (rest.drop n) a S→WQ g k ops rest l S):WQ g k ops rest l S:=b hk
theorem WQ.keep {l':Env} (b:Sub l l') (h:WQ g k ops rest l' S):WQ g k ops rest l S:=fun a c=>h a (c.mono b.lk)
theorem WL.keep {l':Env} (b:Sub l l') (h:WL g k ops rest l' S):WL g k ops rest l S:=fun a w c hw=>h a w (c.mono b.lk) hw

theorem tn {l:Env} {d:Nat} {u v:Value} (h:lk l d=some u) (b:u=v):∀ j x,lk ((d,v) :: l) j=some x→lk l j=some x:=fun j x a=>by
  simp only[lk] at a
  split at a
  · rename_i e;subst e;simp only[Option.some.injEq] at a;rw[h,b,a]
  · exact a

theorem WL.split {d:Nat} {b:Bool} (h:lk l d=some (.bool b)) (h1:b=true→WL g k ops rest ((d,.bool true) :: l) S) (e:b=false→WL g k ops rest ((d,.bool false) :: l) S):WL g k ops rest l S:=fun a w c hw=>by
  cases b
  · exact e rfl a w (c.mono (tn h rfl)) hw
  · exact h1 rfl a w (c.mono (tn h rfl)) hw
theorem WQ.split {d:Nat} {b:Bool} (h:lk l d=some (.bool b)) (h1:b=true→WQ g k ops rest ((d,.bool true) :: l) S) (e:b=false→WQ g k ops rest ((d,.bool false) :: l) S):WQ g k ops rest l S:=fun a c=>by
  cases b
  · exact e rfl a (c.mono (tn h rfl))
  · exact h1 rfl a (c.mono (tn h rfl))

end Go.Proofs.YtedmfnmbjglmbaaGreat.Eng
