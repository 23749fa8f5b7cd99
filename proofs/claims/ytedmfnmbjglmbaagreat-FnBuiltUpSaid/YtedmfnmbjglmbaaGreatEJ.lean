/-
  The engine, part J: quiet operations of a drawn region that others wait for by way of others; results of four and five.
  Nothing here names a program.
-/
import Derived.Test.YtedmfnmbjglmbaaGreatEI
namespace Go.Proofs.YtedmfnmbjglmbaaGreat.Eng
open Go.RowKit (Below wrap64)
set_option linter.unusedVariables false
set_option linter.unusedSimpArgs false

section mixed
variable {P:Program} {ops:Array Oper} {Q:Exit→Act→World→Prop} {md:Region.Mode} {S:World→Prop} {kp:Nat→Bool}

theorem oN {i:Nat} {oi:Oper} {v:Value} (T:List Nat) (hi:ops[i]?=some oi) (hsel:∀ (j:Nat) (o:Oper) cs b,ops[j]?=some o→o.op ≠ .select cs b)
    (hQ:∀ c a w,Q (.panic c) (a.put oi.dst v) w→Q (.panic c) a w)
    (hT:∀ j∈T,∀ oj,ops[j]?=some oj→j≠i∧∃ e∈oj.after,Region.binds md e=true∧(e.on=i∨e.on∈T)) :
    ∀ (fuel:Nat) (listed:Array Bool) (a:Act) (w:World),
      (∀ j∈T,listed.getD j true=false) →
      (∀ j oj,ops[j]?=some oj→j≠i→listed.getD j true=false→j ∉ T→oi.apart ops oj=true∧kp j=true) →
      i∈Region.ready md ops listed→YieldsIf P ops S oi v a→S w →
      oS P md ops Q S kp fuel (listed.setIfInBounds i true) (a.put oi.dst v) w→oS P md ops Q S kp (fuel+1) listed a w:=by
  intro fuel
  induction fuel with
  | zero=>
    intro listed a w _ _ hr hy hS H
    refine ⟨fun h=>(by rw [h] at hr; cases hr),fun j hj=>?_⟩
    by_cases hji:j=i
    · subst hji; exact hy.wpOp hi hS ⟨fun _=>hS,H⟩
    · have:=ready_mono hj hji
      rw [H.1] at this
      cases this
  | succ fuel ih=>
    intro listed a w hTl hfree hr hy hS H
    refine ⟨fun h=>(by rw [h] at hr; cases hr),fun j hj=>?_⟩
    by_cases hji:j=i
    · subst hji; exact hy.wpOp hi hS ⟨fun _=>hS,H⟩
    · have h1:=H.2 j (ready_mono hj hji)
      obtain ⟨hjun,oj,hoj,hall⟩:=mem_ready.1 hj
      have hnotT:j ∉ T:=fun hjT=>by
        obtain ⟨_,e,he,hb,hon⟩:=hT j hjT oj hoj
        have h1:=hall e he hb
        rcases hon with hon | hon
        · have h0:=(mem_ready.1 hr).1
          rw [hon] at h1
          rcases Nat.lt_or_ge i listed.size with h' | h'
          · simp [h'] at h0 h1; rw [h0] at h1; cases h1
          · simp [Array.getElem?_eq_none h'] at h1
        · have h0:=hTl _ hon
          rcases Nat.lt_or_ge e.on listed.size with h' | h'
          · simp [h'] at h0 h1; rw [h0] at h1; cases h1
          · simp [Array.getElem?_eq_none h'] at h1
      obtain ⟨hap,hkj⟩:=hfree j oj hoj hji hjun hnotT
      have h2:=wpOp_putIf hoj hap (fun cs b=>hsel i oi cs b hi) (fun cs b=>hsel j oj cs b hoj) hQ hy h1
      have hTl':∀ k∈T,(listed.setIfInBounds j true).getD k true=false:=fun k hk=>by
        have hjk:j≠k:=fun e=>hnotT (e ▸ hk)
        rw [getD_set_ne true hjk]; exact hTl k hk
      have hfree':∀ k ok,ops[k]?=some ok→k≠i→(listed.setIfInBounds j true).getD k true=false→k ∉ T→oi.apart ops ok=true∧kp k=true:=fun k ok hk hki hun hno=>by
        refine hfree k ok hk hki ?_ hno
        by_cases hjk:j=k
        · subst hjk; exact hjun
        · rw [getD_set_ne true hjk] at hun; exact hun
      refine wpOp_mono (fun a' w' h3=>⟨h3.2.1,ih (listed.setIfInBounds j true) a' w' hTl' hfree' (ready_mono hr (Ne.symm hji)) h3.1 (h3.2.1 hkj) ?_⟩) h2
      rw [Array.setIfInBounds_comm _ _ hji]
      exact h3.2.2
end mixed

variable {g:G} {k:List Item} {ops:Array Oper} {rest:List Oper} {l:Env} {Ψ0 H0:Hp} {B0:List Nat} {w0:av Ψ0 H0 B0} {Φ Φ':Hp} {O:fT} {L:List (List Nat)} {w w':World} {S:World→Prop}

def qBT (ops:Array Oper) (kp:Nat→Bool) (done:List Nat) (i:Nat) (T:List Nat):Bool:=
  Region.noSelect ops && (Region.ready .any ops (lst ops done)).contains i &&
  T.all (fun j=>!(j == i) && !((lst ops done).getD j true) && (match ops[j]? with | some oj=>oj.after.any (fun e=>Region.binds .any e && (e.on == i || T.contains e.on)) | none=>true)) &&
  (match ops[i]? with
   | some oi=>(List.range ops.size).all fun j=>j == i || (lst ops done).getD j true || T.contains j || (match ops[j]? with | some oj=>(oi.apart ops oj && kp j) | none=>true)
   | none=>false)

theorem xg {kp:Nat→Bool} {done:List Nat} {i:Nat} {T:List Nat} {oi:Oper} (hi:ops[i]?=some oi) (h:qBT ops kp done i T=true) :
    Region.noSelect ops=true∧i∈Region.ready .any ops (lst ops done) ∧
    (∀ j∈T,∀ oj,ops[j]?=some oj→j≠i∧∃ e∈oj.after,Region.binds .any e=true∧(e.on=i∨e.on∈T)) ∧
    (∀ j∈T,(lst ops done).getD j true=false) ∧
    (∀ j oj,ops[j]?=some oj→j≠i→(lst ops done).getD j true=false→j ∉ T→oi.apart ops oj=true∧kp j=true):=by
  unfold qBT at h
  simp only [hi,Bool.and_eq_true] at h
  obtain ⟨⟨⟨h1,h2⟩,hT⟩,h3⟩:=h
  rw [List.all_eq_true] at hT
  refine ⟨h1,by simpa using h2,fun j hj oj hoj=>?_,fun j hj=>?_,fun j oj hj hne hun hno=>?_⟩
  · have h4:=hT j hj
    simp only [hoj,Bool.and_eq_true] at h4
    obtain ⟨⟨h5,_⟩,h6⟩:=h4
    refine ⟨by simpa using h5,?_⟩
    rw [Array.any_eq_true] at h6
    obtain ⟨x,hx,hb⟩:=h6
    simp only [Bool.and_eq_true,Bool.or_eq_true,beq_iff_eq,List.contains_iff_mem] at hb
    exact ⟨_,Array.getElem_mem hx,hb.1,hb.2⟩
  · have h4:=hT j hj
    simp only [Bool.and_eq_true] at h4
    simpa using h4.1.2
  · rw [List.all_eq_true] at h3
    have hlt:j < ops.size:=(Array.getElem?_eq_some_iff.1 hj).1
    have h4:=h3 j (List.mem_range.2 hlt)
    have hne':(j == i)=false:=by simpa using hne
    have hno':T.contains j=false:=by simpa using hno
    simp only [hne',hun,hno',Bool.false_or,hj] at h4
    simpa using h4

theorem mqT {kp:Nat→Bool} {fuel:Nat} {done:List Nat} {Sw:World→Prop} {o:Oper} {d:Nat} {v:Value} (i:Nat) (T:List Nat) (hi:ops[i]?=some o) (hB:qBT ops kp done i T=true) (hS:∀ w,Sw w→S w)
    (hop:OpQ g.P o.op l S v) (hd:dq o g.n=some d)
    (h:WM g k ops S kp fuel (i :: done) ((d,v) :: l) Sw):WM g k ops S kp (fuel+1) done l Sw:=fun a w hf hw=>by
  obtain ⟨h1,h2,h3,h4,h5⟩:=xg hi hB
  refine oN T hi (Region.noSelect_spec h1) (fun c a w h=>h) h3 fuel _ a w h4 h5 h2 (v:=v) (.inl ⟨by simp [Region.wanted,(bO hd).1],fun w hw=>hop g.n a w o rfl hf hw⟩) (hS w hw) ?_
  rw [(bO hd).2.1,eU]
  exact h _ w (hf.put (bO hd).2.2 v) hw

theorem HSl.unfocusM {α:Type} {R:Hp→List Nat→List Value→α→Prop} {e sz i:Nat} {D F:List Nat} {v:Value} {xs:List α} {x':α} {cs:List Value} (h:HSl R e sz Φ D v xs i cs) (hx':R Φ F cs x') (hk:Kw Φ F) :
    ∃ D',OSl R e sz Φ D' v (xs.set i x')∧SP D' (F++D)∧(∀ k∈F,k∈D')∧(∀ k∈D,k∈D'):=by
  obtain ⟨cells,Fs,g1,g2,rfl,g4,g5⟩:=h.ex
  have hi:=h.lt
  have hsp:SP (Fs.set i F).flatten (F++(Fs.set i []).flatten):=by
    have:=o1 (Fs.set i []) i F
    rw [List.set_set] at this
    exact this.trans (SP.perm List.perm_append_comm)
  refine ⟨(Fs.set i F).flatten,⟨(hk.app h.kn).sub fun k hk=>hsp.mem hk,cells,Fs.set i F,by rw [List.length_set]; exact g1,⟨by rw [g1.1,List.length_set],by simp [g2],fun j y hj=>?_⟩,rfl⟩,hsp,fun k hk=>?_,fun k hk=>?_⟩
  · by_cases hij:i=j
    · subst hij
      rw [List.getElem?_set_self hi] at hj
      simp only [Option.some.injEq] at hj
      subst hj
      have hF:(Fs.set i F).getD i []=F:=by
        simp only [List.getD_eq_getElem?_getD]
        rw [List.getElem?_set_self (by rw [g2]; exact hi)]; rfl
      rw [hF,g4]; exact hx'
    · rw [List.getElem?_set_ne hij] at hj
      have hF:(Fs.set i F).getD j []=Fs.getD j []:=by
        simp only [List.getD_eq_getElem?_getD]
        rw [List.getElem?_set_ne hij]
      rw [hF]; exact g5 j y (Ne.symm hij) hj
  · exact List.mem_flatten.2 ⟨F,List.mem_of_getElem? (i:=i) (List.getElem?_set_self (by rw [g2]; exact hi)),hk⟩
  · obtain ⟨G,hG,hkG⟩:=List.mem_flatten.1 hk
    obtain ⟨j,hj,rfl⟩:=List.getElem_of_mem hG
    by_cases hij:i=j
    · subst hij; simp at hkG
    · have hj':j < Fs.length:=by simpa using hj
      refine List.mem_flatten.2 ⟨Fs[j],List.mem_of_getElem? (i:=j) ?_,?_⟩
      · rw [List.getElem?_set_ne hij,List.getElem?_eq_getElem hj']
      · simpa [List.getElem_set_ne hij] using hkG

def wq (ops:Array Oper) (l:Env) (o:Oper):Bool:=match o.guard with
  | none=>true
  | some (j,b)=>match yl ops l j with
    | some (.bool c)=>c == b
    | _=>false
theorem yt {n:Nat} {a:Act} {o:Oper} (hf:Fr n l a) (h:wq ops l o=true):Region.wanted o (yielded ops a.tmps)=true:=by
  unfold wq at h
  split at h
  · rename_i hg; simp [Region.wanted,hg]
  · rename_i j b hg
    split at h
    · rename_i c hy
      have:c=b:=by simpa using h
      subst this
      simp [Region.wanted,hg,lF hf hy]
    · cases h
def dg (ops:Array Oper) (l:Env) (o:Oper) (n:Nat):Option Nat:=match wq ops l o,o.dst with
  | true,some d=>bif Nat.blt d n then some d else none
  | _,_=>none
theorem n8 {o:Oper} {n d:Nat} (h:dg ops l o n=some d):wq ops l o=true∧o.dst=some d∧Nat.blt d n=true:=by
  unfold dg at h
  split at h
  · rename_i d' hg hd
    cases hb:Nat.blt d' n with
    | false=>simp [hb] at h
    | true=>simp only [hb,cond_true,Option.some.injEq] at h; subst h; exact ⟨hg,hd,hb⟩
  · cases h
theorem WI.ofG {kp:Nat→Bool} {fuel:Nat} {done:List Nat} {Sw:World→Prop} {o:Oper} (i:Nat) (hi:ops[i]?=some o) (hg:wq ops l o=true) (h:∀ a w,Eng.Fr g.n l a→Sw w→o.wp g.P a w (fun a' w'=>(kp i=true→S w')∧oS g.P .any ops (QK (At g k)) S kp fuel ((lst ops done).setIfInBounds i true) a' w') (QK (At g k))) :
    WI g k ops S kp fuel done i l Sw:=fun a w hf hw=>by
  unfold wpOp
  simp only [hi,yt hf hg,if_true]
  exact .inl (h a w hf hw)
section
variable {kp:Nat→Bool} {fuel:Nat} {done:List Nat} {Sw:World→Prop} {o:Oper} {d i:Nat}
theorem mqG {v:Value} (i:Nat) (T:List Nat) (hi:ops[i]?=some o) (hB:qBT ops kp done i T=true) (hS:∀ w,Sw w→S w)
    (hop:OpQ g.P o.op l S v) (hd:dg ops l o g.n=some d)
    (h:WM g k ops S kp fuel (i :: done) ((d,v) :: l) Sw):WM g k ops S kp (fuel+1) done l Sw:=fun a w hf hw=>by
  obtain ⟨h1,h2,h3,h4,h5⟩:=xg hi hB
  refine oN T hi (Region.noSelect_spec h1) (fun c a w h=>h) h3 fuel _ a w h4 h5 h2 (v:=v) (.inl ⟨yt hf (n8 hd).1,fun w hw=>hop g.n a w o rfl hf hw⟩) (hS w hw) ?_
  rw [(n8 hd).2.1,eU]
  exact h _ w (hf.put (n8 hd).2.2 v) hw
theorem mno {j:Nat} {b:Bool} (i:Nat) (T:List Nat) (hi:ops[i]?=some o) (hB:qBT ops kp done i T=true) (hS:∀ w,Sw w→S w)
    (hg:o.guard=some (j,b)) (hy:yl ops l j=some (.bool (!b))∨yl ops l j=some undef) (hd:o.dst=some d) (hn:Nat.blt d g.n=true)
    (h:WM g k ops S kp fuel (i :: done) ((d,undef) :: l) Sw):WM g k ops S kp (fuel+1) done l Sw:=fun a w hf hw=>by
  obtain ⟨h1,h2,h3,h4,h5⟩:=xg hi hB
  have hwant:Region.wanted o (yielded ops a.tmps)=false:=by
    rcases hy with hy | hy
    · simp [Region.wanted,hg,lF hf hy]
    · simp [Region.wanted,hg,wU hf hy]
  refine oN T hi (Region.noSelect_spec h1) (fun c a w h=>h) h3 fuel _ a w h4 h5 h2 (v:=undef) (.inr ⟨hwant,rfl⟩) (hS w hw) ?_
  rw [hd,eU]
  exact h _ w (hf.put hn undef) hw
theorem mcG {Q:Value→Hp→List (List Nat)→Prop} {T:Value→Hp→List (List Nat)→World→Prop} (hi:ops[i]?=some o) (hkeep:kp i=true→∀ v Φ' D w,Q v Φ' D→T v Φ' D w→S w) (hop:OpK g.P o.op l Sw Q T) (hd:dg ops l o g.n=some d)
    (h:∀ v Φ' D,Q v Φ' D→WM g k ops S kp fuel (i :: done) ((d,v) :: l) (T v Φ' D)):WI g k ops S kp fuel done i l Sw:=WI.ofG i hi (n8 hd).1 fun a w hf hw=>by
  obtain ⟨f,args,h1,h2⟩:=hop g.n a w o rfl hf hw
  unfold Oper.wp
  rw [h1,Oper.upon_enter,(n8 hd).2.1]
  refine h2.mono ?_
  rintro e w' ⟨v,Φ',D,rfl,h3,h4⟩
  exact ⟨fun hk=>hkeep hk v Φ' D w' h3 h4,by rw [eU]; exact h v Φ' D h3 _ _ (hf.put (n8 hd).2.2 v) h4⟩
theorem mpG {v:Value} (hi:ops[i]?=some o) (hkeep:kp i=true→∀ w,Sw w→S w) (hop:OpP g.P o.op l Sw v) (hd:dg ops l o g.n=some d)
    (h:WM g k ops S kp fuel (i :: done) ((d,v) :: l) Sw):WI g k ops S kp fuel done i l Sw:=WI.ofG i hi (n8 hd).1 fun a w hf hw=>by
  obtain ⟨f,args,h1,h2⟩:=hop g.n a w o rfl hf hw
  unfold Oper.wp
  rw [h1,Oper.upon_enter,(n8 hd).2.1]
  refine h2.mono ?_
  rintro e w' ⟨rfl,h4⟩
  exact ⟨fun hk=>hkeep hk w' h4,by rw [eU]; exact h _ _ (hf.put (n8 hd).2.2 v) h4⟩
theorem WM.split {d:Nat} {b:Bool} (h:lk l d=some (.bool b)) (h1:b=true→WM g k ops S kp fuel done ((d,.bool true) :: l) Sw) (h2:b=false→WM g k ops S kp fuel done ((d,.bool false) :: l) Sw):WM g k ops S kp fuel done l Sw:=fun a w hf hw=>by
  cases b
  · exact h2 rfl a w (hf.mono (rJ h rfl)) hw
  · exact h1 rfl a w (hf.mono (rJ h rfl)) hw
end

theorem Kc {P:Program} {x y:Operand} {t u:TypeId} {i j:ByteArray} (hx:opv l x=some (.string i)) (hy:opv l y=some (.string j)):OpQ P (.binOp .gtr t x y u) l S (.bool (!slt i j && !seq i j)):=fun n a w o ho hf hw=>by
  unfold execOp; simp only [ho,hf.eval hx,hf.eval hy]
  simp [eqGuard,binOp,Op.stringOp,slt,seq]
theorem gM {α:Type} {l:List α} {a:α} (i:Nat) (h:l[i]?=some a):a∈l:=List.mem_of_getElem? h
theorem ai2 {α:Type} {l:List α} {a b:α} (i j:Nat) (h:l[i]?=some a) (h':l[j]?=some b):∀ e∈[a,b],e∈l:=y6.mem ⟨gM i h,gM j h',trivial⟩
theorem sr {g:G} {k:List Item} {l:Env} {S:World→Prop} {id:Nat} {os:List Oper} {y:Code} (h:WL g (.code y :: k) os.toArray os l S):WT g (.code (.seq (.region id os.toArray false) y) :: k) l S:=WT.seq (WT.region h)
end Go.Proofs.YtedmfnmbjglmbaaGreat.Eng
