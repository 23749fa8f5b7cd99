/-
  The engine, part J: quiet operations of a drawn region that others wait for by way of others; results of four and five.
  Nothing here names a program.
-/
import Derived.Test.YtedmfnmbjglmbaaGreatEI
namespace Go.Proofs.YtedmfnmbjglmbaaGreat.Eng
open Go.RowKit (Below wrap64)
set_option linter.unusedVariables false
set_option linter.unusedSimpArgs false

section mixed
variable {P:Program} {ops:Array Oper} {Q:Exit→Act→World→Prop} {md:Region.Mode} {S:World→Prop} {kp:Nat→Bool}

theorem qE {i:Nat} {l:Oper} {v:Value} (T:List Nat) (y:ops[i]?=some l) (z:∀ (j:Nat) (o:Oper) cs b,ops[j]?=some o→o.op ≠ .select cs b)
    (F:∀ c a w,Q (.panic c) (a.put l.dst v) w→Q (.panic c) a w)
    (G:∀ j∈T,∀ f,ops[j]?=some f→j≠i∧∃ e∈f.after,Region.binds md e=true∧(e.on=i∨e.on∈T)) :
    ∀ (fuel:Nat) (d:Array Bool) (a:Act) (w:World),
      (∀ j∈T,d.getD j true=false) →
      (∀ j f,ops[j]?=some f→j≠i→d.getD j true=false→j ∉ T→l.apart ops f=true∧kp j=true) →
      i∈Region.ready md ops d→YieldsIf P ops S l v a→S w →
      qC P md ops Q S kp fuel (d.setIfInBounds i true) (a.put l.dst v) w→qC P md ops Q S kp (fuel+1) d a w:=by
  intro fuel
  induction fuel with
  | zero=>
    intro d a w _ _ m r n H
    refine⟨fun h=>(by rw[h] at m;cases m),fun j s=>?_⟩
    by_cases g:j=i
    · subst g;exact r.wpOp y n ⟨fun _=>n,H⟩
    · have:=ready_mono s g
      rw[H.1] at this
      cases this
  | succ fuel I=>
    intro d a w A B m r n H
    refine⟨fun h=>(by rw[h] at m;cases m),fun j s=>?_⟩
    by_cases g:j=i
    · subst g;exact r.wpOp y n ⟨fun _=>n,H⟩
    · have h1:=H.2 j (ready_mono s g)
      obtain⟨C,f,t,K⟩:=mem_ready.1 s
      have D:j ∉ T:=fun L=>by
        obtain⟨_,e,he,M,p⟩:=G j L f t
        have h1:=K e he M
        rcases p with p | p
        · have q:=(mem_ready.1 m).1
          rw[p] at h1
          rcases Nat.lt_or_ge i d.size with h' | h'
          · simp[h'] at q h1;rw[q] at h1;cases h1
          · simp[Array.getElem?_eq_none h'] at h1
        · have q:=A _ p
          rcases Nat.lt_or_ge e.on d.size with h' | h'
          · simp[h'] at q h1;rw[q] at h1;cases h1
          · simp[Array.getElem?_eq_none h'] at h1
      obtain⟨N,O⟩:=B j f t g C D
      have R:=wpOp_putIf t N (fun cs b=>z i l cs b y) (fun cs b=>z j f cs b t) F r h1
      have U:∀ k∈T,(d.setIfInBounds j true).getD k true=false:=fun k hk=>by
        have u:j≠k:=fun e=>D (e ▸ hk)
        rw[getD_set_ne true u];exact A k hk
      have V:∀ k ok,ops[k]?=some ok→k≠i→(d.setIfInBounds j true).getD k true=false→k ∉ T→l.apart ops ok=true∧kp k=true:=fun k ok hk W E X=>by
        refine B k ok hk W ?_ X
        by_cases u:j=k
        · subst u;exact C
        · rw[getD_set_ne true u] at E;exact E
      refine wpOp_mono (fun Y w' x=>⟨x.2.1,I (d.setIfInBounds j true) Y w' U V (ready_mono m (Ne.symm g)) x.1 (x.2.1 O) ?_⟩) R
      rw[Array.setIfInBounds_comm _ _ g]
      exact x.2.2
end mixed

variable {g:G} {k:List Item} {ops:Array Oper} {rest:List Oper} {l:Env} {Ψ0 H0:Hp} {B0:List Nat} {w0:aD Ψ0 H0 B0} {Φ Φ':Hp} {O:gY} {L:List (List Nat)} {w w':World} {S:World→Prop}

def qBT (ops:Array Oper) (kp:Nat→Bool) (done:List Nat) (i:Nat) (T:List Nat):Bool:=
  Region.noSelect ops && (Region.ready .any ops (lst ops done)).contains i &&
  T.all (fun j=>!(j == i) && !((lst ops done).getD j true) && (match ops[j]? with | some a=>a.after.any (fun e=>Region.binds .any e && (e.on == i || T.contains e.on)) | none=>true)) &&
  (match ops[i]? with
   | some b=>(List.range ops.size).all fun j=>j == i || (lst ops done).getD j true || T.contains j || (match ops[j]? with | some a=>(b.apart ops a && kp j) | none=>true)
   | none=>false)

theorem xR {kp:Nat→Bool} {done:List Nat} {i:Nat} {T:List Nat} {f:Oper} (g:ops[i]?=some f) (h:qBT ops kp done i T=true) :
    Region.noSelect ops=true∧i∈Region.ready .any ops (lst ops done) ∧
    (∀ j∈T,∀ b,ops[j]?=some b→j≠i∧∃ e∈b.after,Region.binds .any e=true∧(e.on=i∨e.on∈T)) ∧
    (∀ j∈T,(lst ops done).getD j true=false) ∧
    (∀ j b,ops[j]?=some b→j≠i→(lst ops done).getD j true=false→j ∉ T→f.apart ops b=true∧kp j=true):=by
  unfold qBT at h
  simp only[g,gm] at h
  obtain⟨⟨⟨h1,k⟩,hT⟩,h3⟩:=h
  rw[List.all_eq_true] at hT
  refine⟨h1,by simpa using k,fun j c b l=>?_,fun j c=>?_,fun j b c m n o=>?_⟩
  · have a:=hT j c
    simp only[l,gm] at a
    obtain⟨⟨p,_⟩,h6⟩:=a
    refine⟨by simpa using p,?_⟩
    rw[Array.any_eq_true] at h6
    obtain⟨x,q,d⟩:=h6
    simp only[gm,Bool.or_eq_true,beq_iff_eq,List.contains_iff_mem] at d
    exact⟨_,Array.getElem_mem q,d.1,d.2⟩
  · have a:=hT j c
    simp only[gm] at a
    simpa using a.1.2
  · rw[List.all_eq_true] at h3
    have r:j < ops.size:=(Array.getElem?_eq_some_iff.1 c).1
    have a:=h3 j (List.mem_range.2 r)
    have s:(j == i)=false:=by simpa using m
    have t:T.contains j=false:=by simpa using o
    simp only[s,n,t,Bool.false_or,c] at a
    simpa using a

theorem mqT {kp:Nat→Bool} {fuel:Nat} {done:List Nat} {Sw:World→Prop} {o:Oper} {d:Nat} {v:Value} (i:Nat) (T:List Nat) (e:ops[i]?=some o) (j:qBT ops kp done i T=true) (m:∀ w,Sw w→S w)
    (n:OpQ g.P o.op l S v) (b:dq o g.n=some d)
    (h:WM g k ops S kp fuel (i :: done) ((d,v) :: l) Sw):WM g k ops S kp (fuel+1) done l Sw:=fun a w f hw=>by
  obtain⟨h1,p,q,r,s⟩:=xR e j
  refine qE T e (Region.noSelect_spec h1) (fun c a w h=>h) q fuel _ a w r s p (v:=v) (.inl ⟨by simp[Region.wanted,(c8 b).1],fun w hw=>n g.n a w o rfl f hw⟩) (m w hw) ?_
  rw[(c8 b).2.1,fY]
  exact h _ w (f.put (c8 b).2.2 v) hw

theorem HSl.unfocusM {α:Type} {R:Hp→List Nat→List Value→α→Prop} {e sz i:Nat} {D F:List Nat} {v:Value} {xs:List α} {x':α} {cs:List Value} (h:HSl R e sz Φ D v xs i cs) (m:R Φ F cs x') (hk:Kw Φ F) :
    ∃ c,OSl R e sz Φ c v (xs.set i x')∧SP c (F++D)∧(∀ k∈F,k∈c)∧(∀ k∈D,k∈c):=by
  obtain⟨cells,Fs,g1,g2,rfl,g4,g5⟩:=h.ex
  have d:=h.lt
  have g:SP (Fs.set i F).flatten (F++(Fs.set i []).flatten):=by
    have:=sM (Fs.set i []) i F
    rw[List.set_set] at this
    exact this.trans (SP.perm List.perm_append_comm)
  refine⟨(Fs.set i F).flatten,⟨(hk.app h.kn).sub fun k hk=>g.mem hk,cells,Fs.set i F,by rw[List.length_set];exact g1,⟨by rw[g1.1,List.length_set],by simp[g2],fun j y b=>?_⟩,rfl⟩,g,fun k hk=>?_,fun k hk=>?_⟩
  · by_cases a:i=j
    · subst a
      rw[j3 d] at b
      simp only[Option.some.injEq] at b
      subst b
      have f:(Fs.set i F).getD i []=F:=by
        simp only[hS]
        rw[j3 (by rw[g2];exact d)];rfl
      rw[f,g4];exact m
    · rw[hZ a] at b
      have f:(Fs.set i F).getD j []=Fs.getD j []:=by
        simp only[hS]
        rw[hZ a]
      rw[f];exact g5 j y (Ne.symm a) b
  · exact l4.2 ⟨F,jf (i:=i) (j3 (by rw[g2];exact d)),hk⟩
  · obtain⟨G,n,l⟩:=l4.1 hk
    obtain⟨j,b,rfl⟩:=List.getElem_of_mem n
    by_cases a:i=j
    · subst a;simp at l
    · have o:j < Fs.length:=by simpa using b
      refine l4.2 ⟨Fs[j],jf (i:=j) ?_,?_⟩
      · rw[hZ a,List.getElem?_eq_getElem o]
      · simpa[List.getElem_set_ne a] using l

def wq (ops:Array Oper) (l:Env) (o:Oper):Bool:=match o.guard with
  | none=>true
  | some (j,b)=>match yl ops l j with
    | some (.bool c)=>c == b
    | _=>false
theorem Ai {n:Nat} {a:Act} {o:Oper} (e:Fr n l a) (h:wq ops l o=true):Region.wanted o (yielded ops a.tmps)=true:=by
  unfold wq at h
  split at h
  · rename_i d;simp[Region.wanted,d]
  · rename_i j b d
    split at h
    · rename_i c f
      have:c=b:=by simpa using h
      subst this
      simp[Region.wanted,d,nr e f]
    · cases h
def dg (ops:Array Oper) (l:Env) (o:Oper) (n:Nat):Option Nat:=match wq ops l o,o.dst with
  | true,some d=>bif Nat.blt d n then some d else none
  | _,_=>none
theorem oC {o:Oper} {n d:Nat} (h:dg ops l o n=some d):wq ops l o=true∧o.dst=some d∧Nat.blt d n=true:=by
  unfold dg at h
  split at h
  · rename_i b c e
    cases a:Nat.blt b n with
    | false=>simp[a] at h
    | true=>simp only[a,cond_true,Option.some.injEq] at h;subst h;exact⟨c,e,a⟩
  · cases h
theorem WI.ofG {kp:Nat→Bool} {fuel:Nat} {done:List Nat} {Sw:World→Prop} {o:Oper} (i:Nat) (c:ops[i]?=some o) (d:wq ops l o=true) (h:∀ a w,Eng.Fr g.n l a→Sw w→o.wp g.P a w (fun e w'=>(kp i=true→S w')∧qC g.P .any ops (QK (At g k)) S kp fuel ((lst ops done).setIfInBounds i true) e w') (QK (At g k))) :
    WI g k ops S kp fuel done i l Sw:=fun a w b hw=>by
  unfold wpOp
  simp only[c,Ai b d,if_true]
  exact .inl (h a w b hw)
section
variable {kp:Nat→Bool} {fuel:Nat} {done:List Nat} {Sw:World→Prop} {o:Oper} {d i:Nat}
theorem mqG {v:Value} (i:Nat) (T:List Nat) (f:ops[i]?=some o) (j:qBT ops kp done i T=true) (m:∀ w,Sw w→S w)
    (n:OpQ g.P o.op l S v) (b:dg ops l o g.n=some d)
    (h:WM g k ops S kp fuel (i :: done) ((d,v) :: l) Sw):WM g k ops S kp (fuel+1) done l Sw:=fun a w e hw=>by
  obtain⟨h1,p,q,r,s⟩:=xR f j
  refine qE T f (Region.noSelect_spec h1) (fun c a w h=>h) q fuel _ a w r s p (v:=v) (.inl ⟨Ai e (oC b).1,fun w hw=>n g.n a w o rfl e hw⟩) (m w hw) ?_
  rw[(oC b).2.1,fY]
  exact h _ w (e.put (oC b).2.2 v) hw
theorem mno {j:Nat} {b:Bool} (i:Nat) (T:List Nat) (m:ops[i]?=some o) (p:qBT ops kp done i T=true) (q:∀ w,Sw w→S w)
    (n:o.guard=some (j,b)) (e:yl ops l j=some (.bool (!b))∨yl ops l j=some undef) (r:o.dst=some d) (s:Nat.blt d g.n=true)
    (h:WM g k ops S kp fuel (i :: done) ((d,undef) :: l) Sw):WM g k ops S kp (fuel+1) done l Sw:=fun a w f hw=>by
  obtain⟨h1,t,u,x,y⟩:=xR m p
  have z:Region.wanted o (yielded ops a.tmps)=false:=by
    rcases e with e | e
    · simp[Region.wanted,n,nr f e]
    · simp[Region.wanted,n,xG f e]
  refine qE T m (Region.noSelect_spec h1) (fun c a w h=>h) u fuel _ a w x y t (v:=undef) (.inr ⟨z,rfl⟩) (q w hw) ?_
  rw[r,fY]
  exact h _ w (f.put s undef) hw
theorem mcG {Q:Value→Hp→List (List Nat)→Prop} {T:Value→Hp→List (List Nat)→World→Prop} (n:ops[i]?=some o) (p:kp i=true→∀ v Φ' D w,Q v Φ' D→T v Φ' D w→S w) (q:OpK g.P o.op l Sw Q T) (b:dg ops l o g.n=some d)
    (h:∀ v Φ' D,Q v Φ' D→WM g k ops S kp fuel (i :: done) ((d,v) :: l) (T v Φ' D)):WI g k ops S kp fuel done i l Sw:=WI.ofG i n (oC b).1 fun a w c hw=>by
  obtain⟨f,args,h1,r⟩:=q g.n a w o rfl c hw
  unfold Oper.wp
  rw[h1,Oper.upon_enter,(oC b).2.1]
  refine r.mono ?_
  rintro e w' ⟨v,Φ',D,rfl,j,m⟩
  exact⟨fun hk=>p hk v Φ' D w' j m,by rw[fY];exact h v Φ' D j _ _ (c.put (oC b).2.2 v) m⟩
theorem mpG {v:Value} (m:ops[i]?=some o) (n:kp i=true→∀ w,Sw w→S w) (p:OpP g.P o.op l Sw v) (b:dg ops l o g.n=some d)
    (h:WM g k ops S kp fuel (i :: done) ((d,v) :: l) Sw):WI g k ops S kp fuel done i l Sw:=WI.ofG i m (oC b).1 fun a w c hw=>by
  obtain⟨f,args,h1,q⟩:=p g.n a w o rfl c hw
  unfold Oper.wp
  rw[h1,Oper.upon_enter,(oC b).2.1]
  refine q.mono ?_
  rintro e w' ⟨rfl,j⟩
  exact⟨fun hk=>n hk w' j,by rw[fY];exact h _ _ (c.put (oC b).2.2 v) j⟩
theorem WM.split {d:Nat} {b:Bool} (h:lk l d=some (.bool b)) (h1:b=true→WM g k ops S kp fuel done ((d,.bool true) :: l) Sw) (e:b=false→WM g k ops S kp fuel done ((d,.bool false) :: l) Sw):WM g k ops S kp fuel done l Sw:=fun a w c hw=>by
  cases b
  · exact e rfl a w (c.mono (tn h rfl)) hw
  · exact h1 rfl a w (c.mono (tn h rfl)) hw
end

theorem Mb {P:Program} {x y:Operand} {t u:TypeId} {i j:ByteArray} (c:opv l x=some (.string i)) (d:opv l y=some (.string j)):OpQ P (.binOp .gtr t x y u) l S (.bool (!slt i j && !seq i j)):=fun n a w o e b hw=>by
  unfold execOp;simp only[e,b.eval c,b.eval d]
  simp[eqGuard,binOp,Op.stringOp,slt,seq]
theorem OSl.focusM {α:Type} {R:Hp→List Nat→List Value→α→Prop} {e sz:Nat} {D:List Nat} {v:Value} {xs:List α} (h:OSl R e sz Φ D v xs) {i:Int} {x:α} (d:idx xs i=some x) :
    ∃ cs F b,HSl R e sz Φ b v xs i.toNat cs∧R Φ F cs x∧Kw Φ F∧SP (F++b) D∧∀ k∈D,k∈F++b:=by
  obtain⟨cells,Fs,g1,g2,rfl⟩:=h.ex
  have f:=(a8 d).2.2
  have c:=ux d
  have hle:i.toNat*sz+sz≤cells.length:=by rw[g2.len,← Nat.succ_mul];exact Nat.mul_le_mul_right sz c
  have a:=jI Fs i.toNat (by rw[g2.flen];exact c)
  refine⟨_,Fs.getD i.toNat [],(Fs.set i.toNat []).flatten,⟨h.kn.sub fun k hk=>a.mem_iff.1 (List.mem_append.2 (.inr hk)),c,by simp;omega,cells,Fs,g1,g2.flen,rfl,rfl,fun j y _ g=>g2.el j y g⟩,g2.el _ _ f,h.kn.sub fun k hk=>a.mem_iff.1 (List.mem_append.2 (.inl hk)),SP.perm a,fun k hk=>a.mem_iff.2 hk⟩
theorem gM {α:Type} {l:List α} {a:α} (i:Nat) (h:l[i]?=some a):a∈l:=jf h
theorem ai2 {α:Type} {l:List α} {a b:α} (i j:Nat) (h:l[i]?=some a) (c:l[j]?=some b):∀ e∈[a,b],e∈l:=zT.mem ⟨gM i h,gM j c,trivial⟩
theorem sr {g:G} {k:List Item} {l:Env} {S:World→Prop} {id:Nat} {os:List Oper} {y:Code} (h:WL g (.code y :: k) os.toArray os l S):WT g (.code (.seq (.region id os.toArray false) y) :: k) l S:=WT.seq (WT.region h)
end Go.Proofs.YtedmfnmbjglmbaaGreat.Eng
