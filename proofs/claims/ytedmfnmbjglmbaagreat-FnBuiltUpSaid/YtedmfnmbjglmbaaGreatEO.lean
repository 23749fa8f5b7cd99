/-
  The engine, part O: many plain steps at once, by a function that carries them out.
  Nothing here names a program.
-/
import Derived.Test.YtedmfnmbjglmbaaGreatEK
namespace Go.Proofs.YtedmfnmbjglmbaaGreat.Eng
open Go.RowKit (Below wrap64)
set_option linter.unusedVariables false
set_option linter.unusedSimpArgs false

inductive Cfg
  | t (k:List Item) (l:Env)
  | r (k:List Item) (ops:Array Oper) (rest:List Oper) (l:Env)
  | q (k:List Item) (ops:Array Oper) (rest:List Oper) (l:Env)
def Cfg.ok (g:G) (S:World→Prop):Cfg→Prop
  | .t k l=>WT g k l S
  | .r k ops rest l=>WL g k ops rest l S
  | .q k ops rest l=>WQ g k ops rest l S
abbrev Fa:=Nat × Nat × Nat × Nat
def fa1 (P:Program):Fa→Bool
  | (0,t,i,off)=>Fld P t i off
  | (1,t,_,_)=>T1 P t
  | (_,t,n,_)=>Tn P t n
def fas (P:Program) (fs:List Fa):Bool:=fs.all (fa1 P)
def tk:Nat→List Value→Option (List Value)
  | 0,_=>some []
  | n+1,v :: vs=>(match tk n vs with
    | some r=>some (v :: r)
    | none=>none)
  | _+1,[]=>none
theorem vA:∀ (n:Nat) (vs:List Value) {r:List Value},tk n vs=some r→vs.take n=r∧r.length=n
  | 0,_,_,h=>by cases h; exact ⟨by simp,rfl⟩
  | n+1,v :: vs,_,h=>by
    unfold tk at h
    split at h
    · rename_i r hr
      cases h
      obtain ⟨h1,h2⟩:=vA n vs hr
      exact ⟨by simp [h1],by simp [h2]⟩
    · cases h
  | _+1,[],_,h=>by cases h
def op1 (O:fT) (l:Env) (is:List Nat) (op:Op):Option (Value × List Nat × Option (Nat × Nat) × List Fa):=match op with
  | .fieldAddr t x i=>(match opv l x,is with
    | some (.pointer (some ⟨b,p,none⟩)),off :: is'=>some (.pointer (some ⟨b,p+off,none⟩),is',none,[(0,t,i,off)])
    | _,_=>none)
  | .load t x=>(match opv l x,is with
    | some (.pointer (some ⟨b,p,none⟩)),j :: is'=>(match O[j / 32]? with
      | some (b',.cells C _ _)=>(match j % 32 with
        | 0=>(match C.toList.drop p with
          | v :: _=>some (v,is',some (b,b'),[(1,t,0,0)])
          | []=>none)
        | m+1=>(match tk (m+1) (C.toList.drop p) with
          | some xs=>some (.agg xs.toArray,is',some (b,b'),[(2,t,m+1,0)])
          | none=>none))
      | _=>none)
    | _,_=>none)
  | op=>(match pv op l with
    | some v=>some (v,is,none,[])
    | none=>none)
def gd (ops:Array Oper) (l:Env) (o:Oper):Option Bool:=match o.guard with
  | none=>some true
  | some (j,b)=>(match yl ops l j with
    | some (.bool t)=>some (t == b)
    | some (.tuple ⟨[]⟩)=>some false
    | _=>none)
def opr (n:Nat) (O:fT) (ops:Array Oper) (l:Env) (is:List Nat) (o:Oper):Option (Nat × Value × List Nat × Option (Nat × Nat) × List Fa):=match o.dst with
  | some d=>bif Nat.blt d n then (match gd ops l o with
    | some true=>(match op1 O l is o.op with
      | some (v,x)=>some (d,v,x)
      | none=>none)
    | some false=>some (d,undef,is,none,[])
    | none=>none) else none
  | none=>none
def one (n:Nat) (O:fT) (is:List Nat):Cfg→Option (Cfg × List Nat × Option (Nat × Nat) × List Fa)
  | .r k ops rest l=>(match rest with
    | []=>some (.t k l,is,none,[])
    | o :: rest=>(match opr n O ops l is o with
      | some (d,v,x)=>some (.r k ops rest ((d,v) :: l),x)
      | none=>none))
  | .q k ops rest l=>(match rest with
    | []=>some (.t k l,is,none,[])
    | o :: rest=>(match opr n O ops l is o with
      | some (d,v,x)=>some (.q k ops rest ((d,v) :: l),x)
      | none=>none))
  | .t k l=>(match k with
    | .code (.seq x y) :: k=>some (.t (.code x :: .code y :: k) l,is,none,[])
    | .code (.region _ os false) :: k=>some (.r k os os.toList l,is,none,[])
    | .code (.block id c) :: k=>some (.t (.code c :: .inBlock id :: k) l,is,none,[])
    | .code .skip :: k=>some (.t k l,is,none,[])
    | .code (.exit id) :: k=>(match exitTo id k with
      | some k'=>some (.t k' l,is,none,[])
      | none=>none)
    | .inBlock _ :: k=>some (.t k l,is,none,[])
    | _=>none)
def adv (n:Nat) (O:fT):Nat→List Nat→Cfg→List Nat→List Nat→List Fa→Option (Cfg × List Nat × List Nat × List Fa)
  | 0,_,c,bs,bs',fs=>some (c,bs,bs',fs)
  | m+1,is,c,bs,bs',fs=>(match one n O is c with
    | some (c',is',none,f)=>adv n O m is' c' bs bs' (f++fs)
    | some (c',is',some (b,b'),f)=>adv n O m is' c' (b :: bs) (b' :: bs') (f++fs)
    | none=>none)

variable {g:G} {k:List Item} {ops:Array Oper} {rest:List Oper} {l:Env} {Ψ0 H0:Hp} {B0:List Nat} {w0:av Ψ0 H0 B0} {Φ Φ':Hp} {O:fT} {L:List (List Nat)} {w w':World} {S:World→Prop} {o:Oper} {d:Nat} {is is':List Nat} {fs:List Fa} {v:Value} {e:Option (Nat × Nat)}

theorem Eo {op:Op} (h:op1 O l is op=some (v,is',e,fs)) (he:∀ p∈e,p.1=p.2) (hf:∀ f∈fs,fa1 g.P f=true):OpQ g.P op l (St w0 Φ O L) v:=by
  unfold op1 at h
  split at h
  · split at h
    · cases h
      exact aK (hf _ (List.mem_singleton.2 rfl)) (by assumption)
    · cases h
  · split at h
    · split at h
      · rename_i t x _ _ b p j is' hx _ b' C T fz hO
        split at h
        · split at h
          · rename_i v' vs hd
            cases h
            obtain rfl:b=b':=he _ rfl
            exact cz (hf _ (List.mem_singleton.2 rfl)) hx (fun w hw=>hw.rgO hO p 1 [v] (by rw [hd]; simp))
          · cases h
        · rename_i m hm
          split at h
          · rename_i xs hxs
            cases h
            obtain rfl:b=b':=he _ rfl
            obtain ⟨h1,h2⟩:=vA _ _ hxs
            exact aG (hf _ (List.mem_singleton.2 rfl)) hx (fun w hw=>hw.rgO hO p (m+1) xs (by rw [h1])) h2
          · cases h
      · cases h
    · cases h
  · split at h
    · cases h; exact A7 (by assumption)
    · cases h

theorem Kj (h:opr g.n O ops l is o=some (d,v,is',e,fs)) (he:∀ p∈e,p.1=p.2) (hf:∀ f∈fs,fa1 g.P f=true) (hk:WL g k ops rest ((d,v) :: l) (St w0 Φ O L)):WL g k ops (o :: rest) l (St w0 Φ O L):=by
  unfold opr at h
  split at h
  · rename_i d' hd
    cases hn:Nat.blt d' g.n with
    | false=>rw [hn] at h; cases h
    | true=>
      rw [hn,cond_true] at h
      split at h
      · rename_i hg
        split at h
        · rename_i v' x hx
          cases h
          have h1:OpQ g.P o.op l (St w0 Φ O L) v:=Eo hx he hf
          unfold gd at hg
          split at hg
          · exact WL.q h1 (by assumption) hd hn hk
          · rename_i j b hgu
            split at hg
            · rename_i t hy
              have:t=b:=by simpa using hg
              subst this
              exact WL.yes hgu hy (WL.q (o:={ o with guard:=none }) h1 rfl hd hn hk)
            · cases hg
            · cases hg
        · cases h
      · rename_i hg
        cases h
        unfold gd at hg
        split at hg
        · cases hg
        · rename_i j b hgu
          split at hg
          · rename_i t hy
            have ht:t = !b:=by cases t <;> cases b <;> simp_all
            exact WL.no hgu (by rw [← ht]; exact hy) hd hn hk
          · exact WL.nox hgu (by assumption) hd hn hk
          · cases hg
      · cases h
  · cases h
theorem KB (h:opr g.n O ops l is o=some (d,v,is',e,fs)) (he:∀ p∈e,p.1=p.2) (hf:∀ f∈fs,fa1 g.P f=true) (hk:WQ g k ops rest ((d,v) :: l) (St w0 Φ O L)):WQ g k ops (o :: rest) l (St w0 Φ O L):=by
  unfold opr at h
  split at h
  · rename_i d' hd
    cases hn:Nat.blt d' g.n with
    | false=>rw [hn] at h; cases h
    | true=>
      rw [hn,cond_true] at h
      split at h
      · rename_i hg
        split at h
        · rename_i v' x hx
          cases h
          have h1:OpQ g.P o.op l (St w0 Φ O L) v:=Eo hx he hf
          unfold gd at hg
          split at hg
          · exact WQ.q h1 (by assumption) hd hn hk
          · rename_i j b hgu
            split at hg
            · rename_i t hy
              have:t=b:=by simpa using hg
              subst this
              exact WQ.yes hgu hy (WQ.q (o:={ o with guard:=none }) h1 rfl hd hn hk)
            · cases hg
            · cases hg
        · cases h
      · rename_i hg
        cases h
        unfold gd at hg
        split at hg
        · cases hg
        · rename_i j b hgu
          split at hg
          · rename_i t hy
            have ht:t = !b:=by cases t <;> cases b <;> simp_all
            exact WQ.no hgu (by rw [← ht]; exact hy) hd hn hk
          · exact WQ.nox hgu (by assumption) hd hn hk
          · cases hg
      · cases h
  · cases h
theorem Gu {c c':Cfg} (h:one g.n O is c=some (c',is',e,fs)) (he:∀ p∈e,p.1=p.2) (hf:∀ f∈fs,fa1 g.P f=true) (hk:c'.ok g (St w0 Φ O L)):c.ok g (St w0 Φ O L):=by
  unfold one at h
  split at h
  · split at h
    · cases h; exact WL.nil hk
    · split at h
      · rename_i ho; cases h; exact Kj ho he hf hk
      · cases h
  · split at h
    · cases h; exact WQ.nil hk
    · split at h
      · rename_i ho; cases h; exact KB ho he hf hk
      · cases h
  · split at h
    · cases h; exact WT.seq hk
    · rename_i id os k'
      cases h
      exact WT.region (os:=os.toList) hk
    · cases h; exact WT.block hk
    · cases h; exact WT.skip hk
    · split at h
      · cases h; exact WT.exit (by assumption) hk
      · cases h
    · cases h; exact WT.inBlock hk
    · cases h
theorem zO:∀ (m:Nat) {is:List Nat} {c c':Cfg} {bs bs' X X':List Nat} {fs F:List Fa},adv g.n O m is c bs bs' fs=some (c',X,X',F)→(X=X'→bs=bs')∧∀ f∈fs,f∈F
  | 0,is,c,c',bs,bs',X,X',fs,F,h=>by cases h; exact ⟨id,fun _ h=>h⟩
  | m+1,is,c,c',bs,bs',X,X',fs,F,h=>by
    unfold adv at h
    split at h
    · obtain ⟨h1,h2⟩:=zO m h
      exact ⟨h1,fun f hf=>h2 f (List.mem_append.2 (.inr hf))⟩
    · obtain ⟨h1,h2⟩:=zO m h
      exact ⟨fun hX=>(List.cons.inj (h1 hX)).2,fun f hf=>h2 f (List.mem_append.2 (.inr hf))⟩
    · cases h
theorem pP:∀ (m:Nat) {is:List Nat} {c c':Cfg} {bs bs' X:List Nat} {fs F:List Fa},adv g.n O m is c bs bs' fs=some (c',X,X,F)→(∀ f∈F,fa1 g.P f=true)→c'.ok g (St w0 Φ O L)→c.ok g (St w0 Φ O L)
  | 0,is,c,c',bs,bs',X,fs,F,h,hf,hk=>by cases h; exact hk
  | m+1,is,c,c',bs,bs',X,fs,F,h,hf,hk=>by
    unfold adv at h
    split at h
    · rename_i ho
      obtain ⟨h1,h2⟩:=zO m h
      exact Gu ho (by simp) (fun f h=>hf f (h2 f (List.mem_append.2 (.inl h)))) (pP m h hf hk)
    · rename_i ho
      obtain ⟨h1,h2⟩:=zO m h
      refine Gu ho (fun p hp=>?_) (fun f h=>hf f (h2 f (List.mem_append.2 (.inl h)))) (pP m h hf hk)
      obtain rfl:=Option.mem_some_iff.1 hp
      exact (List.cons.inj (h1 rfl)).1
    · cases h
theorem oG {P:Program} (h:fas P fs=true):∀ f∈fs,fa1 P f=true:=List.all_eq_true.1 h
section
variable {k':List Item} {ops':Array Oper} {rest':List Oper} {l':Env} {bs:List Nat}
theorem att (m:Nat) (is:List Nat) (h:adv g.n O m is (.t k l) [] [] []=some (.t k' l',bs,bs,fs)) (hk:WT g k' l' (St w0 Φ O L)) (hf:fas g.P fs=true:=by kernel_rfl):WT g k l (St w0 Φ O L):=
  pP m h (oG hf) hk
theorem atr (m:Nat) (is:List Nat) (h:adv g.n O m is (.t k l) [] [] []=some (.r k' ops' rest' l',bs,bs,fs)) (hk:WL g k' ops' rest' l' (St w0 Φ O L)) (hf:fas g.P fs=true:=by kernel_rfl):WT g k l (St w0 Φ O L):=
  pP m h (oG hf) hk
theorem art (m:Nat) (is:List Nat) (h:adv g.n O m is (.r k ops rest l) [] [] []=some (.t k' l',bs,bs,fs)) (hk:WT g k' l' (St w0 Φ O L)) (hf:fas g.P fs=true:=by kernel_rfl):WL g k ops rest l (St w0 Φ O L):=
  pP m h (oG hf) hk
theorem arr (m:Nat) (is:List Nat) (h:adv g.n O m is (.r k ops rest l) [] [] []=some (.r k' ops' rest' l',bs,bs,fs)) (hk:WL g k' ops' rest' l' (St w0 Φ O L)) (hf:fas g.P fs=true:=by kernel_rfl):WL g k ops rest l (St w0 Φ O L):=
  pP m h (oG hf) hk
theorem aqq (m:Nat) (is:List Nat) (h:adv g.n O m is (.q k ops rest l) [] [] []=some (.q k' ops' rest' l',bs,bs,fs)) (hk:WQ g k' ops' rest' l' (St w0 Φ O L)) (hf:fas g.P fs=true:=by kernel_rfl):WQ g k ops rest l (St w0 Φ O L):=
  pP m h (oG hf) hk
theorem aqt (m:Nat) (is:List Nat) (h:adv g.n O m is (.q k ops rest l) [] [] []=some (.t k' l',bs,bs,fs)) (hk:WT g k' l' (St w0 Φ O L)) (hf:fas g.P fs=true:=by kernel_rfl):WQ g k ops rest l (St w0 Φ O L):=
  pP m h (oG hf) hk
theorem aqr (m:Nat) (is:List Nat) (h:adv g.n O m is (.q k ops rest l) [] [] []=some (.r k' ops' rest' l',bs,bs,fs)) (hk:WL g k' ops' rest' l' (St w0 Φ O L)) (hf:fas g.P fs=true:=by kernel_rfl):WQ g k ops rest l (St w0 Φ O L):=
  pP m h (oG hf) hk
end
section
variable {α:Type} {R:Hp→List Nat→List Value→α→Prop} {e sz i:Nat} {D F X:List Nat} {v:Value} {xs:List α} {cs:List Value}
theorem RSl.fr [LS R] (h:RSl R sz Φ F v xs) (hf:FrH X Φ Φ') (hd:Dj F X):RSl R sz Φ' F v xs:=h.frame LS.l hf hd
theorem OSl.fr [LS R] (h:OSl R e sz Φ D v xs) (hf:FrH X Φ Φ') (ho:Dj (ob v) X) (hd:Dj D X):OSl R e sz Φ' D v xs:=h.frame LS.l hf ho hd
theorem HSl.fr [LS R] (h:HSl R e sz Φ D v xs i cs) (hf:FrH X Φ Φ') (ho:Dj (ob v) X) (hd:Dj D X):HSl R e sz Φ' D v xs i cs:=h.frame LS.l hf ho hd
theorem RSl.f0 [LS R] (h:RSl R sz Φ F v xs) (hf:FrH [] Φ Φ'):RSl R sz Φ' F v xs:=h.frame LS.l hf (Dj.empty _)
theorem OSl.f0 [LS R] (h:OSl R e sz Φ D v xs) (hf:FrH [] Φ Φ'):OSl R e sz Φ' D v xs:=h.frame LS.l hf (Dj.empty _) (Dj.empty _)
theorem HSl.f0 [LS R] (h:HSl R e sz Φ D v xs i cs) (hf:FrH [] Φ Φ'):HSl R e sz Φ' D v xs i cs:=h.frame LS.l hf (Dj.empty _) (Dj.empty _)
end
theorem dN {X:List Nat}:Dj [] X:=Dj.nil X
theorem Ap.q {As R:List (List Nat)} (h:Ap w0 O As R) (i:Nat) {A:List Nat} (hi:R[i]?=some A):Dj A As.flatten:=h.r hi
theorem sx (js js':List Nat) {L1 R:List (List Nat)} {O1 R':fT} (h:Eng.pick js L=some (L1,R):=by rfl) (h':Eng.pick js' O=some (O1,R'):=by rfl):∀ w,St w0 Φ O L w→St w0 Φ O1 L1 w:=fun w hw=>(hw.sel h).selO h'
def pks {β:Type}:List Nat→List β→Option (List β)
  | [],_=>some []
  | i :: is,L=>(match L[i]?,pks is L with
    | some a,some r=>some (a :: r)
    | _,_=>none)
theorem am {β:Type}:∀ (is:List Nat) {L A:List β},pks is L=some A→∀ e∈A,e∈L
  | [],L,A,h,e,he=>by cases h; cases he
  | i :: is,L,A,h,e,he=>by
    unfold pks at h
    split at h
    · rename_i a r ha hr
      cases h
      rcases List.mem_cons.1 he with rfl | he
      · exact List.mem_of_getElem? ha
      · exact am is hr e he
    · cases h
section
variable {P:Program} {fi n:Nat} {fn:Func}
theorem rt {α:Type} {x r:α} {f:α→Value} {rv:ResultVar} {w0:av Ψ0 H0 []} (hF:P.funcs[fi]?=some fn) (h:some x=some r) (hres:fn.results = #[rv]:=by rfl) (hv:Ep P rv l (St w0 Φ O L) (f x):=by rfl) :
    WT ⟨P,fi,n,lh (f r) w0.w⟩ (.code .ret :: k) l (St w0 Φ O L):=by
  cases h
  exact WT.ret hF (by rw [hres]; exact ay.one hv) (fun w hw=>gg hw)
theorem rtg (js:List Nat) {v:Value} {As R:List (List Nat)} {Q:Hp→List (List Nat)→Value→Prop} (hF:P.funcs[fi]?=some fn) (hr:ay P fn.results l (St w0 Φ O L) v) (hp:Eng.pick js L=some (As,R)) (hQ:∀ w,St w0 Φ O L w→Q Φ As v) :
    WT ⟨P,fi,n,be H0 w0.w B0 Q⟩ (.code .ret :: k) l (St w0 Φ O L):=
  WT.ret hF hr (fun w hw=>aI hw hp (hQ w hw))
end
theorem pc {f:Nat} {xs:List Operand} {ts:Array TypeId} {vs:List Value} {v:Value} (ho:o.op = .call ⟨.value (.func f),xs.toArray,ts⟩) (ha:nM l xs=some vs)
    (h:∀ b:av Φ Φ [],Calls g.P f vs.toArray b.w (lh v b.w)) (hd:dq o g.n=some d) (hk:WL g k ops rest ((d,v) :: l) (St w0 Φ O L)) (hF:Fun g.P f=true:=by kernel_rfl):WL g k ops (o :: rest) l (St w0 Φ O L):=
  lp (by rw [ho]; exact fx hF ha (fun w hw=>h (ba hw.fro))) hd hk
theorem pz {f:Nat} {xs:List Operand} {ts:Array TypeId} {vs:List Value} {v:Value} (ho:o.op = .call ⟨.value (.func f),xs.toArray,ts⟩) (ha:nM l xs=some vs)
    (h:∀ b:av Φ Φ [],Up Ψ0 Φ→Calls g.P f vs.toArray b.w (lh v b.w)) (hd:dq o g.n=some d) (hk:WL g k ops rest ((d,v) :: l) (St w0 Φ O L)) (hF:Fun g.P f=true:=by kernel_rfl):WL g k ops (o :: rest) l (St w0 Φ O L):=
  lp (by rw [ho]; exact fx hF ha (fun w hw=>h (ba hw.fro) hw.up)) hd hk
theorem pd {f:Nat} {xs:List Operand} {ts:Array TypeId} {vs:List Value} {v:Value} (ho:o.op = .call ⟨.value (.func f),xs.toArray,ts⟩) (ha:nM l xs=some vs)
    (h:∀ b:av Ψ0 Ψ0 [],Calls g.P f vs.toArray b.w (lh v b.w)) (hd:dq o g.n=some d) (hk:WL g k ops rest ((d,v) :: l) (St w0 Φ O L)) (hF:Fun g.P f=true:=by kernel_rfl):WL g k ops (o :: rest) l (St w0 Φ O L):=
  lp (by rw [ho]; exact fx hF ha (fun w hw=>h (ba hw.in0))) hd hk
theorem kc (js:List Nat) {R:List (List Nat)} {f:Nat} {xs:List Operand} {ts:Array TypeId} {vs:List Value} {As:List (List Nat)} {Q:Hp→List (List Nat)→Value→Prop} (ho:o.op = .call ⟨.value (.func f),xs.toArray,ts⟩) (ha:nM l xs=some vs) (hp:Eng.pick js L=some (As,R))
    (h:∀ b:av (off Φ As.flatten) Φ As.flatten,Ap w0 O As R→Up Ψ0 (off Φ As.flatten)→Calls g.P f vs.toArray b.w (be Φ b.w As.flatten Q)) (hd:dq o g.n=some d)
    (hk:∀ v Φ' Fs,Ap w0 O As R∧FrH As.flatten Φ Φ'∧Q Φ' Fs v→WL g k ops rest ((d,v) :: l) (St w0 Φ' O (Fs++R))) (hF:Fun g.P f=true:=by kernel_rfl):WL g k ops (o :: rest) l (St w0 Φ O L):=
  lc (by rw [ho]; exact bo hF ha hp (fun w hw ap hl=>h (bx hw ap hl) ap (hw.uo ap))) hd hk
theorem ka {f:Nat} {xs:List Operand} {ts:Array TypeId} {vs:List Value} {Q:Hp→List (List Nat)→Value→Prop} (ho:o.op = .call ⟨.value (.func f),xs.toArray,ts⟩) (ha:nM l xs=some vs)
    (h:∀ b:av Φ Φ [],Up Ψ0 Φ→Calls g.P f vs.toArray b.w (be Φ b.w [] Q)) (hd:dq o g.n=some d)
    (hk:∀ v Φ' Fs,Ap w0 O [] L∧FrH [] Φ Φ'∧Q Φ' Fs v→WL g k ops rest ((d,v) :: l) (St w0 Φ' O (Fs++L))) (hF:Fun g.P f=true:=by kernel_rfl):WL g k ops (o :: rest) l (St w0 Φ O L):=
  lc (by rw [ho]; exact bo (js:=[]) hF ha rfl (fun w hw ap hl=>h (ba hw.fro) hw.up)) hd hk
theorem wt0 (h:WT g k l (St w0 Φ O ([] :: L))):WT g k l (St w0 Φ O L):=WT.conv (fun _ hw=>hw.addNil) h
theorem wtS (h:WT g k l (St w0 Φ O (ob (.slice none 0 0) :: L))):WT g k l (St w0 Φ O L):=WT.conv (fun _ hw=>hw.addNil) h
theorem wl0 (h:WL g k ops rest l (St w0 Φ O ([] :: L))):WL g k ops rest l (St w0 Φ O L):=WL.conv (fun _ hw=>hw.addNil) h
theorem wlS (h:WL g k ops rest l (St w0 Φ O (ob (.slice none 0 0) :: L))):WL g k ops rest l (St w0 Φ O L):=WL.conv (fun _ hw=>hw.addNil) h
theorem wtL (L':List (List Nat)) (hS:∀ w,St w0 Φ O L w→St w0 Φ O L' w) (h:WT g k l (St w0 Φ O L')):WT g k l (St w0 Φ O L):=WT.conv hS h
theorem wlL (L':List (List Nat)) (hS:∀ w,St w0 Φ O L w→St w0 Φ O L' w) (h:WL g k ops rest l (St w0 Φ O L')):WL g k ops rest l (St w0 Φ O L):=WL.conv hS h
theorem sre (js:List Nat) (Bs:List (List Nat)) {As R:List (List Nat)} (hp:Eng.pick js L=some (As,R)) (hs:SP Bs.flatten As.flatten):∀ w,St w0 Φ O L w→St w0 Φ O (Bs++R) w:=fun w hw=>hw.re hp hs
theorem smg (js:List Nat) {As R:List (List Nat)} {F:List Nat} (hp:Eng.pick js L=some (As,R)) (hs:SP F As.flatten):∀ w,St w0 Φ O L w→St w0 Φ O (F :: R) w:=fun w hw=>hw.merge hp hs
inductive Sb (l:Env):Env→Prop
  | n:Sb l []
  | c {k:Nat} {v:Value} {r:Env} (h:Eng.lk l k=some v) (t:Sb l r):Sb l ((k,v) :: r)
theorem Sb.sub {l l':Env} (h:Sb l l'):Sub l l':=by
  induction h with
  | n=>trivial
  | c h _ ih=>exact ⟨h,ih⟩
theorem lb (js js':List Nat) {c:Code} {l':Env} {L1 R:List (List Nat)} {O1 R':fT} (h:WT g (.code c :: .inLoop c :: k) l' (St w0 Φ O1 L1)) (hL:Eng.pick js L=some (L1,R):=by rfl) (hO:Eng.pick js' O=some (O1,R'):=by rfl) (hl:Sb l l':=by repeat constructor):WT g (.inLoop c :: k) l (St w0 Φ O L):=
  Kh h hl.sub (sx js js' hL hO)
theorem wo (js js':List Nat) {l':Env} {L1 R:List (List Nat)} {O1 R':fT} (h:WT g k l' (St w0 Φ O1 L1)) (hL:Eng.pick js L=some (L1,R):=by rfl) (hO:Eng.pick js' O=some (O1,R'):=by rfl) (hl:Sb l l':=by repeat constructor):WT g k l (St w0 Φ O L):=
  wto h hl.sub (sx js js' hL hO)
theorem ku {l':Env} (h:WL g k ops rest l' S) (hl:Sb l l':=by repeat constructor):WL g k ops rest l S:=kk h hl.sub
theorem kq {l':Env} (h:WQ g k ops rest l' S) (hl:Sb l l':=by repeat constructor):WQ g k ops rest l S:=WQ.keep hl.sub h
theorem lin {σ:Type} {c:Code} (env:σ→Env) (T:σ→World→Prop) (M:Nat→σ→Prop) (s:σ) (n:Nat) (h:M n s) (hS:∀ w,S w→T s w)
    (hs:∀ n,(∀ s,M n s→WT g (.code c :: .inLoop c :: k) (env s) (T s))→∀ s,M (n+1) s→WT g (.code c :: .inLoop c :: k) (env s) (T s)) (hl:Sb l (env s):=by repeat constructor)
    (h0:∀ s,M 0 s→False:=by intro s hm; first | exact Ca hm | exact Ca hm.1):WT g (.code (.loop c) :: k) l S:=
  GE env T M s n h hl.sub hS h0 hs
theorem FX {p:Nat} {vs C C':List Value} (h:Put p vs C C'):mF C p vs=C':=by
  induction h with
  | nil=>simp [mF]
  | hit h ih=>simp only [mF,List.take_zero,List.nil_append,Nat.zero_add] at ih ⊢; simpa using ih
  | @skip p c vs C C' h ih=>
    have:p+1+vs.length=p+vs.length+1:=by omega
    simp only [mF,List.take_succ_cons,List.cons_append,this,List.drop_succ_cons] at ih ⊢
    rw [ih]
abbrev wz (i:Int):Int:=IntKind.i64.wrap i
theorem us {P:Program} {α:Type} {R:Hp→List Nat→List Value→α→Prop} {e sz i:Nat} {D:List Nat} {v u:Value} {xs:List α} {cs cs':List Value} {t:Nat} {x y:Operand} (js:List Nat) (Rr:List (List Nat)) (o:Nat) (hR:bQ R) (hz:Sz P t 1=true)
    (hx:opv l x=some (.pointer (some ⟨sb v,so v+i*sz+o,none⟩))) (hy:opv l y=some u) (h1:u.oneCell'=true) (hp:Eng.pick js L=some ([ob v],Rr)) (h:HSl R e sz Φ D v xs i cs) (ho:Nat.ble (o+1) sz=true)
    (hd:Ap w0 O [ob v] Rr→Dj D [ob v].flatten) (hc:Put o [u] cs cs':=by repeat constructor) :
    OpU P (.store t x y) l (St w0 Φ O L) (fun Φ' D'=>(Ap w0 O [ob v] Rr∧FrH [ob v].flatten Φ Φ')∧HSl R e sz Φ' D v xs i cs') (fun Φ' D'=>St w0 Φ' O (ob v :: Rr)):=
  BA hR hz hx hy (dK h1) rfl ⟨h1,trivial⟩ hp h ho (FX hc) hd
end Go.Proofs.YtedmfnmbjglmbaaGreat.Eng
