/-
  The engine, part F: a region that draws its order and in which some operations change the world; loops, meetings.
  Nothing here names a program.
-/
import Derived.Test.YtedmfnmbjglmbaaGreatEE
import Derived.OrdersHeld
import Derived.Still
namespace Go.Proofs.YtedmfnmbjglmbaaGreat.Eng
open Go.RowKit (Below wrap64)
set_option linter.unusedVariables false
set_option linter.unusedSimpArgs false

section mixed
variable {P:Program} {ops:Array Oper} {Q:Exit→Act→World→Prop} {md:Region.Mode} {S:World→Prop} {kp:Nat→Bool}

def oS (P:Program) (md:Region.Mode) (ops:Array Oper) (Q:Exit→Act→World→Prop) (S:World→Prop) (kp:Nat→Bool):Nat→Array Bool→Act→World→Prop
  | 0,listed,a,w=>Region.ready md ops listed=[]∧Q .normal a w
  | fuel+1,listed,a,w=>
    (Region.ready md ops listed=[]→Q .normal a w) ∧
    ∀ i∈Region.ready md ops listed,wpOp P ops Q i (fun a' w'=>(kp i=true→S w')∧oS P md ops Q S kp fuel (listed.setIfInBounds i true) a' w') a w

theorem vS:∀ (fuel:Nat) (listed:Array Bool) (a:Act) (w:World),oS P md ops Q S kp fuel listed a w→wpAny P md ops Q fuel listed a w
  | 0,_,_,_,h=>h
  | fuel+1,_,_,_,h=>⟨h.1,fun i hi=>wpOp_mono (fun a' w' h'=>vS fuel _ a' w' h'.2) (h.2 i hi)⟩

theorem zn {i:Nat} {oi:Oper} {v:Value} (hi:ops[i]?=some oi) (hsel:∀ (j:Nat) (o:Oper) cs b,ops[j]?=some o→o.op ≠ .select cs b)
    (hQ:∀ c a w,Q (.panic c) (a.put oi.dst v) w→Q (.panic c) a w) :
    ∀ (fuel:Nat) (listed:Array Bool) (a:Act) (w:World),
      (∀ j oj,ops[j]?=some oj→j≠i→listed.getD j true=false→(∀ e∈oj.after,Region.binds md e=true→e.on≠i)→oi.apart ops oj=true∧kp j=true) →
      i∈Region.ready md ops listed→YieldsIf P ops S oi v a→S w →
      oS P md ops Q S kp fuel (listed.setIfInBounds i true) (a.put oi.dst v) w→oS P md ops Q S kp (fuel+1) listed a w:=by
  intro fuel
  induction fuel with
  | zero=>
    intro listed a w _ hr hy hS H
    refine ⟨fun h=>(by rw [h] at hr; cases hr),fun j hj=>?_⟩
    by_cases hji:j=i
    · subst hji; exact hy.wpOp hi hS ⟨fun _=>hS,H⟩
    · have:=ready_mono hj hji
      rw [H.1] at this
      cases this
  | succ fuel ih=>
    intro listed a w hfree hr hy hS H
    refine ⟨fun h=>(by rw [h] at hr; cases hr),fun j hj=>?_⟩
    by_cases hji:j=i
    · subst hji; exact hy.wpOp hi hS ⟨fun _=>hS,H⟩
    · have h1:=H.2 j (ready_mono hj hji)
      obtain ⟨hjun,oj,hoj,hall⟩:=mem_ready.1 hj
      have hnot:∀ e∈oj.after,Region.binds md e=true→e.on≠i:=fun e he hb heq=>by
        have h1:=hall e he hb
        have h0:=(mem_ready.1 hr).1
        rw [heq] at h1
        rcases Nat.lt_or_ge i listed.size with h' | h'
        · simp [h'] at h0 h1; rw [h0] at h1; cases h1
        · simp [Array.getElem?_eq_none h'] at h1
      obtain ⟨hap,hkj⟩:=hfree j oj hoj hji hjun hnot
      have h2:=wpOp_putIf hoj hap (fun cs b=>hsel i oi cs b hi) (fun cs b=>hsel j oj cs b hoj) hQ hy h1
      have hfree':∀ k ok,ops[k]?=some ok→k≠i→(listed.setIfInBounds j true).getD k true=false →
          (∀ e∈ok.after,Region.binds md e=true→e.on≠i)→oi.apart ops ok=true∧kp k=true:=fun k ok hk hki hun hno=>by
        refine hfree k ok hk hki ?_ hno
        by_cases hjk:j=k
        · subst hjk; exact hjun
        · rw [getD_set_ne true hjk] at hun; exact hun
      refine wpOp_mono (fun a' w' h3=>⟨h3.2.1,ih (listed.setIfInBounds j true) a' w' hfree' (ready_mono hr (Ne.symm hji)) h3.1 (h3.2.1 hkj) ?_⟩) h2
      rw [Array.setIfInBounds_comm _ _ hji]
      exact h3.2.2
end mixed

variable {g:G} {k:List Item} {ops:Array Oper} {rest:List Oper} {l:Env} {Ψ0 H0:Hp} {B0:List Nat} {w0:av Ψ0 H0 B0} {Φ Φ':Hp} {O:fT} {L:List (List Nat)} {w w':World} {S:World→Prop}

def lst (ops:Array Oper) (done:List Nat):Array Bool:=done.foldr (fun i a=>a.setIfInBounds i true) (Array.replicate ops.size false)

def WM (g:G) (k:List Item) (ops:Array Oper) (S:World→Prop) (kp:Nat→Bool) (fuel:Nat) (done:List Nat) (l:Env) (Sw:World→Prop):Prop:=
  ∀ a w,Fr g.n l a→Sw w→oS g.P .any ops (QK (At g k)) S kp fuel (lst ops done) a w

theorem WT.mix {id:Nat} {os:List Oper} (S:World→Prop) (kp:Nat→Bool) {Sw:World→Prop} (hm:g.P.follows .mixedOrders=true) (hS:∀ w,Sw w→Sw w.drew) (h:WM g k os.toArray S kp os.length [] l Sw) :
    WT g (.code (.region id os.toArray true) :: k) l Sw:=fun a w hf hw=>
  At.of_wp (wp_region_any hm (by
    have:=vS _ _ _ _ (h a _ hf (hS w hw))
    simpa [lst] using this))

def qB (ops:Array Oper) (kp:Nat→Bool) (done:List Nat) (i:Nat):Bool:=
  Region.noSelect ops && (Region.ready .any ops (lst ops done)).contains i &&
  (match ops[i]? with
   | some oi=>(List.range ops.size).all fun j=>j == i || (lst ops done).getD j true || (match ops[j]? with | some oj=>oj.after.any (fun e=>Region.binds .any e && e.on == i) || (oi.apart ops oj && kp j) | none=>true)
   | none=>false)

theorem Hi {kp:Nat→Bool} {done:List Nat} {i:Nat} {oi:Oper} (hi:ops[i]?=some oi) (h:qB ops kp done i=true) :
    Region.noSelect ops=true∧i∈Region.ready .any ops (lst ops done) ∧
    (∀ j oj,ops[j]?=some oj→j≠i→(lst ops done).getD j true=false→(∀ e∈oj.after,Region.binds .any e=true→e.on≠i)→oi.apart ops oj=true∧kp j=true):=by
  unfold qB at h
  simp only [hi,Bool.and_eq_true] at h
  obtain ⟨⟨h1,h2⟩,h3⟩:=h
  refine ⟨h1,by simpa using h2,fun j oj hj hne hun hno=>?_⟩
  rw [List.all_eq_true] at h3
  have hlt:j < ops.size:=(Array.getElem?_eq_some_iff.1 hj).1
  have h4:=h3 j (List.mem_range.2 hlt)
  have hne':(j == i)=false:=by simpa using hne
  simp only [hne',hun,Bool.false_or,hj,Bool.or_eq_true] at h4
  rcases h4 with h4 | h4
  · rw [Array.any_eq_true] at h4
    obtain ⟨x,hx,hb⟩:=h4
    simp only [Bool.and_eq_true,beq_iff_eq] at hb
    exact absurd hb.2 (hno _ (Array.getElem_mem hx) hb.1)
  · simpa using h4

theorem eU (done:List Nat) (i:Nat):(lst ops done).setIfInBounds i true=lst ops (i :: done):=rfl

theorem WM.q {kp:Nat→Bool} {fuel:Nat} {done:List Nat} {Sw:World→Prop} {o:Oper} {d:Nat} {v:Value} (i:Nat) (hi:ops[i]?=some o) (hB:qB ops kp done i=true) (hS:∀ w,Sw w→S w)
    (hop:OpQ g.P o.op l S v) (hg:o.guard=none) (hd:o.dst=some d) (hn:Nat.blt d g.n=true)
    (h:WM g k ops S kp fuel (i :: done) ((d,v) :: l) Sw):WM g k ops S kp (fuel+1) done l Sw:=fun a w hf hw=>by
  obtain ⟨h1,h2,h3⟩:=Hi hi hB
  refine zn hi (Region.noSelect_spec h1) (fun c a w h=>h) fuel _ a w h3 h2 (v:=v) (.inl ⟨by simp [Region.wanted,hg],fun w hw=>hop g.n a w o rfl hf hw⟩) (hS w hw) ?_
  rw [hd,eU]
  exact h _ w (hf.put hn v) hw


section eff
variable {kp:Nat→Bool} {fuel:Nat} {done:List Nat} {Sw:World→Prop} {o:Oper} {d:Nat}

def WI (g:G) (k:List Item) (ops:Array Oper) (S:World→Prop) (kp:Nat→Bool) (fuel:Nat) (done:List Nat) (i:Nat) (l:Env) (Sw:World→Prop):Prop:=
  ∀ a w,Eng.Fr g.n l a→Sw w→wpOp g.P ops (QK (At g k)) i (fun a' w'=>(kp i=true→S w')∧oS g.P .any ops (QK (At g k)) S kp fuel ((lst ops done).setIfInBounds i true) a' w') a w

theorem WM.one (i:Nat) (hr:Region.ready .any ops (lst ops done)=[i]) (h:WI g k ops S kp fuel done i l Sw):WM g k ops S kp (fuel+1) done l Sw:=fun a w hf hw=>by
  refine ⟨fun h0=>(by rw [hr] at h0; cases h0),fun j hj=>?_⟩
  rw [hr] at hj
  obtain rfl:j=i:=by simpa using hj
  exact h a w hf hw
theorem WM.two (i j:Nat) (hr:Region.ready .any ops (lst ops done)=[i,j]) (h:WI g k ops S kp fuel done i l Sw) (h':WI g k ops S kp fuel done j l Sw):WM g k ops S kp (fuel+1) done l Sw:=fun a w hf hw=>by
  refine ⟨fun h0=>(by rw [hr] at h0; cases h0),fun m hm=>?_⟩
  rw [hr] at hm
  rcases List.mem_cons.1 hm with rfl | hm
  · exact h a w hf hw
  · obtain rfl:m=j:=by simpa using hm
    exact h' a w hf hw
theorem WI.of (i:Nat) (hi:ops[i]?=some o) (hg:o.guard=none) (h:∀ a w,Eng.Fr g.n l a→Sw w→o.wp g.P a w (fun a' w'=>(kp i=true→S w')∧oS g.P .any ops (QK (At g k)) S kp fuel ((lst ops done).setIfInBounds i true) a' w') (QK (At g k))) :
    WI g k ops S kp fuel done i l Sw:=fun a w hf hw=>by
  unfold wpOp
  simp only [hi,Region.wanted,hg,if_true]
  exact .inl (h a w hf hw)

theorem WI.n {v:Nat→Value} {T:Nat→World→Prop} {i:Nat} (hi:ops[i]?=some o) (hkeep:kp i=true→∀ b w,T b w→S w) (hop:OpN g.P o.op l Sw v T) (hg:o.guard=none) (hd:o.dst=some d) (hn:Nat.blt d g.n=true)
    (h:∀ b,WM g k ops S kp fuel (i :: done) ((d,v b) :: l) (T b)):WI g k ops S kp fuel done i l Sw:=WI.of i hi hg fun a w hf hw=>by
  obtain ⟨b,w',h1,h2⟩:=hop g.n a w o rfl hf hw
  unfold Oper.wp
  rw [h1,Oper.upon_value,hd]
  exact ⟨fun hk=>hkeep hk b w' h2,by rw [eU]; exact h b _ _ (hf.put hn (v b)) h2⟩
theorem WI.e {Q:Value→Hp→List Nat→Prop} {T:Value→Hp→List Nat→World→Prop} {i:Nat} (hi:ops[i]?=some o) (hkeep:kp i=true→∀ v Φ' D w,Q v Φ' D→T v Φ' D w→S w) (hop:OpE g.P o.op l Sw Q T) (hg:o.guard=none) (hd:o.dst=some d) (hn:Nat.blt d g.n=true)
    (h:∀ v Φ' D,Q v Φ' D→WM g k ops S kp fuel (i :: done) ((d,v) :: l) (T v Φ' D)):WI g k ops S kp fuel done i l Sw:=WI.of i hi hg fun a w hf hw=>by
  obtain ⟨v,Φ',D,w',h1,h2,h3⟩:=hop g.n a w o rfl hf hw
  unfold Oper.wp
  rw [h1,Oper.upon_value,hd]
  exact ⟨fun hk=>hkeep hk v Φ' D w' h2 h3,by rw [eU]; exact h v Φ' D h2 _ _ (hf.put hn v) h3⟩
theorem WI.s {T:World→Prop} {i:Nat} (hi:ops[i]?=some o) (hkeep:kp i=true→∀ w,T w→S w) (hop:OpS g.P o.op l Sw T) (hg:o.guard=none) (hd:o.dst=none)
    (h:WM g k ops S kp fuel (i :: done) l T):WI g k ops S kp fuel done i l Sw:=WI.of i hi hg fun a w hf hw=>by
  obtain ⟨w',h1,h2⟩:=hop g.n a w o rfl hf hw
  unfold Oper.wp
  rw [h1,Oper.upon_skip,hd]
  exact ⟨fun hk=>hkeep hk w' h2,by rw [eU]; exact h _ _ (hf.put_none undef) h2⟩
theorem WI.u {Q:Hp→List Nat→Prop} {T:Hp→List Nat→World→Prop} {i:Nat} (hi:ops[i]?=some o) (hkeep:kp i=true→∀ Φ' D w,Q Φ' D→T Φ' D w→S w) (hop:OpU g.P o.op l Sw Q T) (hg:o.guard=none) (hd:o.dst=none)
    (h:∀ Φ' D,Q Φ' D→WM g k ops S kp fuel (i :: done) l (T Φ' D)):WI g k ops S kp fuel done i l Sw:=WI.of i hi hg fun a w hf hw=>by
  obtain ⟨Φ',D,w',h1,h2,h3⟩:=hop g.n a w o rfl hf hw
  unfold Oper.wp
  rw [h1,Oper.upon_skip,hd]
  exact ⟨fun hk=>hkeep hk Φ' D w' h2 h3,by rw [eU]; exact h Φ' D h2 _ _ (hf.put_none undef) h3⟩
theorem WI.ca {Q:Value→Hp→List (List Nat)→Prop} {T:Value→Hp→List (List Nat)→World→Prop} {i:Nat} (hi:ops[i]?=some o) (hkeep:kp i=true→∀ v Φ' D w,Q v Φ' D→T v Φ' D w→S w) (hop:OpK g.P o.op l Sw Q T) (hg:o.guard=none) (hd:o.dst=some d) (hn:Nat.blt d g.n=true)
    (h:∀ v Φ' D,Q v Φ' D→WM g k ops S kp fuel (i :: done) ((d,v) :: l) (T v Φ' D)):WI g k ops S kp fuel done i l Sw:=WI.of i hi hg fun a w hf hw=>by
  obtain ⟨f,args,h1,h2⟩:=hop g.n a w o rfl hf hw
  unfold Oper.wp
  rw [h1,Oper.upon_enter,hd]
  refine h2.mono ?_
  rintro e w' ⟨v,Φ',D,rfl,h3,h4⟩
  exact ⟨fun hk=>hkeep hk v Φ' D w' h3 h4,by rw [eU]; exact h v Φ' D h3 _ _ (hf.put hn v) h4⟩
theorem WI.p {v:Value} {i:Nat} (hi:ops[i]?=some o) (hkeep:kp i=true→∀ w,Sw w→S w) (hop:OpP g.P o.op l Sw v) (hg:o.guard=none) (hd:o.dst=some d) (hn:Nat.blt d g.n=true)
    (h:WM g k ops S kp fuel (i :: done) ((d,v) :: l) Sw):WI g k ops S kp fuel done i l Sw:=WI.of i hi hg fun a w hf hw=>by
  obtain ⟨f,args,h1,h2⟩:=hop g.n a w o rfl hf hw
  unfold Oper.wp
  rw [h1,Oper.upon_enter,hd]
  refine h2.mono ?_
  rintro e w' ⟨rfl,h4⟩
  exact ⟨fun hk=>hkeep hk w' h4,by rw [eU]; exact h _ _ (hf.put hn v) h4⟩
end eff

theorem WM.nil {kp:Nat→Bool} {fuel:Nat} {done:List Nat} {Sw:World→Prop} (hr:Region.ready .any ops (lst ops done)=[]) (h:WT g k l Sw):WM g k ops S kp fuel done l Sw:=fun a w hf hw=>by
  cases fuel with
  | zero=>exact ⟨hr,h a w hf hw⟩
  | succ n=>exact ⟨fun _=>h a w hf hw,fun i hi=>(by rw [hr] at hi; cases hi)⟩

theorem WM.conv {kp:Nat→Bool} {fuel:Nat} {done:List Nat} {Sw S':World→Prop} (hS:∀ w,Sw w→S' w) (h:WM g k ops S kp fuel done l S'):WM g k ops S kp fuel done l Sw:=fun a w hf hw=>h a w hf (hS w hw)
theorem WM.cutN {kp:Nat→Bool} {fuel:Nat} {done:List Nat} {Sw:World→Prop} (l':Env) (hl:Sub l l') (h:WM g k ops S kp fuel done l' Sw):WM g k ops S kp fuel done l Sw:=fun a w hf hw=>h a w (hf.mono hl.lk) hw

def Kn {Ψ0 H0:Hp} {B0:List Nat} (w0:av Ψ0 H0 B0) (Φ:Hp) (F:List Nat) (O:fT) (w:World):Prop:=In Ψ0 w∧(∀ k∈F,∀ o,Φ k=some o→w.heap[k]?=some o)∧∀ p∈O,w.heap[p.1]?=some p.2
theorem Kn.of {Φ0:Hp} {F:List Nat} {O':fT} (hf:∀ k∈F,∀ o,Φ0 k=some o→Φ k=some o) (hs:∀ p∈O',p∈O) (h:St w0 Φ O L w):Kn w0 Φ0 F O' w:=⟨h.in0,fun k hk o ho=>h.fro k o (hf k hk o ho),fun p hp=>(h.obj p (hs p hp)).1⟩
theorem Kn.rgO {F:List Nat} (h:Kn w0 Φ F O w) {i b:Nat} {C:Array Value} {T:Nat} {fz:Nat × Nat} (hi:O[i]?=some (b,.cells C T fz)) (o n:Nat) (cs:List Value) (hc:(C.toList.drop o).take n=cs):w.rangeAt b o cs:=by
  have hh:w.heap[b]?=some (.cells C T fz):=h.2.2 _ (List.mem_of_getElem? hi)
  intro j v hj
  subst hc
  rw [List.getElem?_take] at hj
  split at hj
  · rw [List.getElem?_drop] at hj
    simp only [World.cell?,hh]
    simpa using hj
  · cases hj
theorem Kn.rg {F:List Nat} {b o:Nat} {cs:List Value} (h:Kn w0 Φ F O w) (hb:b∈F) (hr:rg Φ b o cs):w.rangeAt b o cs:=by
  obtain ⟨C,T,fz,h1,h2⟩:=hr
  intro j v hj
  simp only [World.cell?,h.2.1 b hb _ h1]
  simpa using h2 j v hj
def y6 {β:Type} (L:List β):List β→Prop
  | []=>True
  | e :: r=>e∈L∧y6 L r
theorem y6.mem {β:Type} {L:List β}:∀ {L':List β},y6 L L'→∀ e∈L',e∈L
  | [],_,e,he=>by cases he
  | x :: r,h,e,he=>by
    rcases List.mem_cons.1 he with rfl | he
    · exact h.1
    · exact y6.mem h.2 e he

theorem FQ {σ:Type} {c:Code} (env:σ→Env) (T:σ→World→Prop) (M:Nat→σ→Prop) (h0:∀ s,M 0 s→False)
    (hs:∀ n,(∀ s,M n s→WT g (.code c :: .inLoop c :: k) (env s) (T s))→∀ s,M (n+1) s→WT g (.code c :: .inLoop c :: k) (env s) (T s)) (n:Nat) (s:σ) (h:M n s):WT g (.code c :: .inLoop c :: k) (env s) (T s):=by
  induction n generalizing s with
  | zero=>exact (h0 s h).elim
  | succ n ih=>exact hs n ih s h

theorem cut {σ:Type} {c:Code} (env:σ→Env) (T:σ→World→Prop) (M:σ→Prop) (hk:∀ s,M s→WT g k (env s) (T s)) (hc:(∀ s,M s→WT g k (env s) (T s))→WT g (.code c :: k) l S):WT g (.code c :: k) l S:=hc hk

theorem WL.cutN (n:Nat) (l2:Env) (hk:WL g k ops (rest.drop n) l2 S) (hc:WL g k ops (rest.drop n) l2 S→WL g k ops rest l S):WL g k ops rest l S:=hc hk
theorem WQ.cutN (n:Nat) (l2:Env) (hk:WQ g k ops (rest.drop n) l2 S) (hc:WQ g k ops (rest.drop n) l2 S→WQ g k ops rest l S):WQ g k ops rest l S:=hc hk
theorem WQ.keep {l':Env} (hl:Sub l l') (h:WQ g k ops rest l' S):WQ g k ops rest l S:=fun a hf=>h a (hf.mono hl.lk)
theorem WL.keep {l':Env} (hl:Sub l l') (h:WL g k ops rest l' S):WL g k ops rest l S:=fun a w hf hw=>h a w (hf.mono hl.lk) hw

theorem rJ {l:Env} {d:Nat} {u v:Value} (h:lk l d=some u) (hv:u=v):∀ j x,lk ((d,v) :: l) j=some x→lk l j=some x:=fun j x hj=>by
  simp only [lk] at hj
  split at hj
  · rename_i e; subst e; simp only [Option.some.injEq] at hj; rw [h,hv,hj]
  · exact hj

theorem WL.split {d:Nat} {b:Bool} (h:lk l d=some (.bool b)) (h1:b=true→WL g k ops rest ((d,.bool true) :: l) S) (h2:b=false→WL g k ops rest ((d,.bool false) :: l) S):WL g k ops rest l S:=fun a w hf hw=>by
  cases b
  · exact h2 rfl a w (hf.mono (rJ h rfl)) hw
  · exact h1 rfl a w (hf.mono (rJ h rfl)) hw
theorem WQ.split {d:Nat} {b:Bool} (h:lk l d=some (.bool b)) (h1:b=true→WQ g k ops rest ((d,.bool true) :: l) S) (h2:b=false→WQ g k ops rest ((d,.bool false) :: l) S):WQ g k ops rest l S:=fun a hf=>by
  cases b
  · exact h2 rfl a (hf.mono (rJ h rfl))
  · exact h1 rfl a (hf.mono (rJ h rfl))

end Go.Proofs.YtedmfnmbjglmbaaGreat.Eng
