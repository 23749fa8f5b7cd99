/-
  The engine, part O: many plain steps at once, by a function that carries them out.
  Nothing here names a program.
-/
import Derived.Test.YtedmfnmbjglmbaaGreatEK
namespace Go.Proofs.YtedmfnmbjglmbaaGreat.Eng
open Go.RowKit (Below wrap64)
set_option linter.unusedVariables false
set_option linter.unusedSimpArgs false

inductive Cfg
  | t (k:List Item) (l:Env)
  | r (k:List Item) (ops:Array Oper) (rest:List Oper) (l:Env)
  | q (k:List Item) (ops:Array Oper) (rest:List Oper) (l:Env)
def Cfg.ok (g:G) (S:World→Prop):Cfg→Prop
  | .t k l=>WT g k l S
  | .r k ops rest l=>WL g k ops rest l S
  | .q k ops rest l=>WQ g k ops rest l S
abbrev Fa:=Nat × Nat × Nat × Nat
def fa1 (P:Program):Fa→Bool
  | (0,t,i,off)=>Fld P t i off
  | (1,t,_,_)=>T1 P t
  | (_,t,n,_)=>Tn P t n
def fas (P:Program) (fs:List Fa):Bool:=fs.all (fa1 P)
def tk:Nat→List Value→Option (List Value)
  | 0,_=>some []
  | n+1,v :: vs=>(match tk n vs with
    | some r=>some (v :: r)
    | none=>none)
  | _+1,[]=>none
theorem xm:∀ (n:Nat) (vs:List Value) {r:List Value},tk n vs=some r→vs.take n=r∧r.length=n
  | 0,_,_,h=>by cases h;exact⟨NS,rfl⟩
  | n+1,v :: vs,_,h=>by
    unfold tk at h
    split at h
    · rename_i r a
      cases h
      obtain⟨h1,b⟩:=xm n vs a
      exact⟨by simp[h1],by simp[b]⟩
    · cases h
  | _+1,[],_,h=>by cases h
def op1 (O:gY) (l:Env) (is:List Nat) (op:Op):Option (Value × List Nat × Option (Nat × Nat) × List Fa):=match op with
  | .fieldAddr t x i=>(match opv l x,is with
    | some (.pointer (some ⟨b,p,none⟩)),off :: is'=>some (.pointer (some ⟨b,p+off,none⟩),is',none,[(0,t,i,off)])
    | _,_=>none)
  | .load t x=>(match opv l x,is with
    | some (.pointer (some ⟨b,p,none⟩)),j :: is'=>(match O[j / 32]? with
      | some (a,.cells C _ _)=>(match j % 32 with
        | 0=>(match C.toList.drop p with
          | v :: _=>some (v,is',some (b,a),[(1,t,0,0)])
          | []=>none)
        | m+1=>(match tk (m+1) (C.toList.drop p) with
          | some xs=>some (.agg xs.toArray,is',some (b,a),[(2,t,m+1,0)])
          | none=>none))
      | _=>none)
    | _,_=>none)
  | op=>(match pv op l with
    | some v=>some (v,is,none,[])
    | none=>none)
def gd (ops:Array Oper) (l:Env) (o:Oper):Option Bool:=match o.guard with
  | none=>some true
  | some (j,b)=>(match yl ops l j with
    | some (.bool t)=>some (t == b)
    | some (.tuple ⟨[]⟩)=>some false
    | _=>none)
def opr (n:Nat) (O:gY) (ops:Array Oper) (l:Env) (is:List Nat) (o:Oper):Option (Nat × Value × List Nat × Option (Nat × Nat) × List Fa):=match o.dst with
  | some d=>bif Nat.blt d n then (match gd ops l o with
    | some true=>(match op1 O l is o.op with
      | some (v,x)=>some (d,v,x)
      | none=>none)
    | some false=>some (d,undef,is,none,[])
    | none=>none) else none
  | none=>none
def one (n:Nat) (O:gY) (is:List Nat):Cfg→Option (Cfg × List Nat × Option (Nat × Nat) × List Fa)
  | .r k ops rest l=>(match rest with
    | []=>some (.t k l,is,none,[])
    | o :: rest=>(match opr n O ops l is o with
      | some (d,v,x)=>some (.r k ops rest ((d,v) :: l),x)
      | none=>none))
  | .q k ops rest l=>(match rest with
    | []=>some (.t k l,is,none,[])
    | o :: rest=>(match opr n O ops l is o with
      | some (d,v,x)=>some (.q k ops rest ((d,v) :: l),x)
      | none=>none))
  | .t k l=>(match k with
    | .code (.seq x y) :: k=>some (.t (.code x :: .code y :: k) l,is,none,[])
    | .code (.region _ os false) :: k=>some (.r k os os.toList l,is,none,[])
    | .code (.block id c) :: k=>some (.t (.code c :: .inBlock id :: k) l,is,none,[])
    | .code .skip :: k=>some (.t k l,is,none,[])
    | .code (.exit id) :: k=>(match exitTo id k with
      | some k'=>some (.t k' l,is,none,[])
      | none=>none)
    | .inBlock _ :: k=>some (.t k l,is,none,[])
    | _=>none)
def adv (n:Nat) (O:gY):Nat→List Nat→Cfg→List Nat→List Nat→List Fa→Option (Cfg × List Nat × List Nat × List Fa)
  | 0,_,c,bs,a,fs=>some (c,bs,a,fs)
  | m+1,is,c,bs,a,fs=>(match one n O is c with
    | some (d,is',none,f)=>adv n O m is' d bs a (f++fs)
    | some (d,is',some (b,e),f)=>adv n O m is' d (b :: bs) (e :: a) (f++fs)
    | none=>none)

variable {g:G} {k:List Item} {ops:Array Oper} {rest:List Oper} {l:Env} {Ψ0 H0:Hp} {B0:List Nat} {w0:aD Ψ0 H0 B0} {Φ Φ':Hp} {O:gY} {L:List (List Nat)} {w w':World} {S:World→Prop} {o:Oper} {d:Nat} {is is':List Nat} {fs:List Fa} {v:Value} {e:Option (Nat × Nat)}

theorem I8 {op:Op} (h:op1 O l is op=some (v,is',e,fs)) (he:∀ p∈e,p.1=p.2) (a:∀ f∈fs,fa1 g.P f=true):OpQ g.P op l (St w0 Φ O L) v:=by
  unfold op1 at h
  split at h
  · split at h
    · cases h
      exact ax (a _ (hY.2 rfl)) (by assumption)
    · cases h
  · split at h
    · split at h
      · rename_i t x _ _ b p j is' c _ d C T o hO
        split at h
        · split at h
          · rename_i q vs i
            cases h
            obtain rfl:b=d:=he _ rfl
            exact aZ (a _ (hY.2 rfl)) c (fun w hw=>hw.rgO hO p 1 [v] (by rw[i];simp))
          · cases h
        · rename_i m hm
          split at h
          · rename_i xs k
            cases h
            obtain rfl:b=d:=he _ rfl
            obtain⟨h1,n⟩:=xm _ _ k
            exact aw (a _ (hY.2 rfl)) c (fun w hw=>hw.rgO hO p (m+1) xs (by rw[h1])) n
          · cases h
      · cases h
    · cases h
  · split at h
    · cases h;exact BK (by assumption)
    · cases h

theorem M0 (h:opr g.n O ops l is o=some (d,v,is',e,fs)) (he:∀ p∈e,p.1=p.2) (q:∀ f∈fs,fa1 g.P f=true) (hk:WL g k ops rest ((d,v) :: l) (St w0 Φ O L)):WL g k ops (o :: rest) l (St w0 Φ O L):=by
  unfold opr at h
  split at h
  · rename_i r i
    cases c:Nat.blt r g.n with
    | false=>rw[c] at h;cases h
    | true=>
      rw[c,cond_true] at h
      split at h
      · rename_i a
        split at h
        · rename_i w x s
          cases h
          have h1:OpQ g.P o.op l (St w0 Φ O L) v:=I8 s he q
          unfold gd at a
          split at a
          · exact WL.q h1 (by assumption) i c hk
          · rename_i j b m
            split at a
            · rename_i t n
              have:t=b:=by simpa using a
              subst this
              exact WL.yes m n (WL.q (o:={ o with guard:=none }) h1 rfl i c hk)
            · cases a
            · cases a
        · cases h
      · rename_i a
        cases h
        unfold gd at a
        split at a
        · cases a
        · rename_i j b m
          split at a
          · rename_i t n
            have u:t = !b:=by cases t <;> cases b <;> simp_all
            exact WL.no m (by rw[← u];exact n) i c hk
          · exact WL.nox m (by assumption) i c hk
          · cases a
      · cases h
  · cases h
theorem MN (h:opr g.n O ops l is o=some (d,v,is',e,fs)) (he:∀ p∈e,p.1=p.2) (q:∀ f∈fs,fa1 g.P f=true) (hk:WQ g k ops rest ((d,v) :: l) (St w0 Φ O L)):WQ g k ops (o :: rest) l (St w0 Φ O L):=by
  unfold opr at h
  split at h
  · rename_i r i
    cases c:Nat.blt r g.n with
    | false=>rw[c] at h;cases h
    | true=>
      rw[c,cond_true] at h
      split at h
      · rename_i a
        split at h
        · rename_i w x s
          cases h
          have h1:OpQ g.P o.op l (St w0 Φ O L) v:=I8 s he q
          unfold gd at a
          split at a
          · exact WQ.q h1 (by assumption) i c hk
          · rename_i j b m
            split at a
            · rename_i t n
              have:t=b:=by simpa using a
              subst this
              exact WQ.yes m n (WQ.q (o:={ o with guard:=none }) h1 rfl i c hk)
            · cases a
            · cases a
        · cases h
      · rename_i a
        cases h
        unfold gd at a
        split at a
        · cases a
        · rename_i j b m
          split at a
          · rename_i t n
            have u:t = !b:=by cases t <;> cases b <;> simp_all
            exact WQ.no m (by rw[← u];exact n) i c hk
          · exact WQ.nox m (by assumption) i c hk
          · cases a
      · cases h
  · cases h
theorem Hr {c b:Cfg} (h:one g.n O is c=some (b,is',e,fs)) (he:∀ p∈e,p.1=p.2) (d:∀ f∈fs,fa1 g.P f=true) (hk:b.ok g (St w0 Φ O L)):c.ok g (St w0 Φ O L):=by
  unfold one at h
  split at h
  · split at h
    · cases h;exact WL.nil hk
    · split at h
      · rename_i a;cases h;exact M0 a he d hk
      · cases h
  · split at h
    · cases h;exact WQ.nil hk
    · split at h
      · rename_i a;cases h;exact MN a he d hk
      · cases h
  · split at h
    · cases h;exact WT.seq hk
    · rename_i id os k'
      cases h
      exact WT.region (os:=os.toList) hk
    · cases h;exact WT.block hk
    · cases h;exact WT.skip hk
    · split at h
      · cases h;exact WT.exit (by assumption) hk
      · cases h
    · cases h;exact WT.inBlock hk
    · cases h
theorem AI:∀ (m:Nat) {is:List Nat} {c d:Cfg} {bs a X b:List Nat} {fs F:List Fa},adv g.n O m is c bs a fs=some (d,X,b,F)→(X=b→bs=a)∧∀ f∈fs,f∈F
  | 0,is,c,d,bs,a,X,b,fs,F,h=>by cases h;exact⟨id,fun _ h=>h⟩
  | m+1,is,c,d,bs,a,X,b,fs,F,h=>by
    unfold adv at h
    split at h
    · obtain⟨h1,e⟩:=AI m h
      exact⟨h1,fun f i=>e f (gb.2 (.inr i))⟩
    · obtain⟨h1,e⟩:=AI m h
      exact⟨fun j=>(List.cons.inj (h1 j)).2,fun f i=>e f (gb.2 (.inr i))⟩
    · cases h
theorem ru:∀ (m:Nat) {is:List Nat} {c b:Cfg} {bs d X:List Nat} {fs F:List Fa},adv g.n O m is c bs d fs=some (b,X,X,F)→(∀ f∈F,fa1 g.P f=true)→b.ok g (St w0 Φ O L)→c.ok g (St w0 Φ O L)
  | 0,is,c,b,bs,d,X,fs,F,h,a,hk=>by cases h;exact hk
  | m+1,is,c,b,bs,d,X,fs,F,h,a,hk=>by
    unfold adv at h
    split at h
    · rename_i e
      obtain⟨h1,i⟩:=AI m h
      exact Hr e NS (fun f h=>a f (i f (gb.2 (.inl h)))) (ru m h a hk)
    · rename_i e
      obtain⟨h1,i⟩:=AI m h
      refine Hr e (fun p hp=>?_) (fun f h=>a f (i f (gb.2 (.inl h)))) (ru m h a hk)
      obtain rfl:=Option.mem_some_iff.1 hp
      exact (List.cons.inj (h1 rfl)).1
    · cases h
theorem qi {P:Program} (h:fas P fs=true):∀ f∈fs,fa1 P f=true:=List.all_eq_true.1 h
section
variable {k':List Item} {ops':Array Oper} {rest':List Oper} {l':Env} {bs:List Nat}
theorem att (m:Nat) (is:List Nat) (h:adv g.n O m is (.t k l) [] [] []=some (.t k' l',bs,bs,fs)) (hk:WT g k' l' (St w0 Φ O L)) (a:fas g.P fs=true:=by kernel_rfl):WT g k l (St w0 Φ O L):=
  ru m h (qi a) hk
theorem atr (m:Nat) (is:List Nat) (h:adv g.n O m is (.t k l) [] [] []=some (.r k' ops' rest' l',bs,bs,fs)) (hk:WL g k' ops' rest' l' (St w0 Φ O L)) (a:fas g.P fs=true:=by kernel_rfl):WT g k l (St w0 Φ O L):=
  ru m h (qi a) hk
theorem art (m:Nat) (is:List Nat) (h:adv g.n O m is (.r k ops rest l) [] [] []=some (.t k' l',bs,bs,fs)) (hk:WT g k' l' (St w0 Φ O L)) (a:fas g.P fs=true:=by kernel_rfl):WL g k ops rest l (St w0 Φ O L):=
  ru m h (qi a) hk
theorem arr (m:Nat) (is:List Nat) (h:adv g.n O m is (.r k ops rest l) [] [] []=some (.r k' ops' rest' l',bs,bs,fs)) (hk:WL g k' ops' rest' l' (St w0 Φ O L)) (a:fas g.P fs=true:=by kernel_rfl):WL g k ops rest l (St w0 Φ O L):=
  ru m h (qi a) hk
theorem aqq (m:Nat) (is:List Nat) (h:adv g.n O m is (.q k ops rest l) [] [] []=some (.q k' ops' rest' l',bs,bs,fs)) (hk:WQ g k' ops' rest' l' (St w0 Φ O L)) (a:fas g.P fs=true:=by kernel_rfl):WQ g k ops rest l (St w0 Φ O L):=
  ru m h (qi a) hk
theorem aqt (m:Nat) (is:List Nat) (h:adv g.n O m is (.q k ops rest l) [] [] []=some (.t k' l',bs,bs,fs)) (hk:WT g k' l' (St w0 Φ O L)) (a:fas g.P fs=true:=by kernel_rfl):WQ g k ops rest l (St w0 Φ O L):=
  ru m h (qi a) hk
theorem aqr (m:Nat) (is:List Nat) (h:adv g.n O m is (.q k ops rest l) [] [] []=some (.r k' ops' rest' l',bs,bs,fs)) (hk:WL g k' ops' rest' l' (St w0 Φ O L)) (a:fas g.P fs=true:=by kernel_rfl):WQ g k ops rest l (St w0 Φ O L):=
  ru m h (qi a) hk
end
section
variable {α:Type} {R:Hp→List Nat→List Value→α→Prop} {e sz i:Nat} {D F X:List Nat} {v:Value} {xs:List α} {cs:List Value}
theorem RSl.fr [LS R] (h:RSl R sz Φ F v xs) (a:FrH X Φ Φ') (b:Dj F X):RSl R sz Φ' F v xs:=h.frame LS.l a b
theorem OSl.fr [LS R] (h:OSl R e sz Φ D v xs) (a:FrH X Φ Φ') (b:Dj (ob v) X) (c:Dj D X):OSl R e sz Φ' D v xs:=h.frame LS.l a b c
theorem HSl.fr [LS R] (h:HSl R e sz Φ D v xs i cs) (a:FrH X Φ Φ') (b:Dj (ob v) X) (c:Dj D X):HSl R e sz Φ' D v xs i cs:=h.frame LS.l a b c
theorem RSl.f0 [LS R] (h:RSl R sz Φ F v xs) (a:FrH [] Φ Φ'):RSl R sz Φ' F v xs:=h.frame LS.l a (Dj.empty _)
theorem OSl.f0 [LS R] (h:OSl R e sz Φ D v xs) (a:FrH [] Φ Φ'):OSl R e sz Φ' D v xs:=h.frame LS.l a (Dj.empty _) (Dj.empty _)
theorem HSl.f0 [LS R] (h:HSl R e sz Φ D v xs i cs) (a:FrH [] Φ Φ'):HSl R e sz Φ' D v xs i cs:=h.frame LS.l a (Dj.empty _) (Dj.empty _)
end
theorem dE {F:List Nat}:Dj F []:=Dj.empty F
theorem dN {X:List Nat}:Dj [] X:=Dj.nil X
theorem Ap.q {As R:List (List Nat)} (h:Ap w0 O As R) (i:Nat) {A:List Nat} (a:R[i]?=some A):Dj A As.flatten:=h.r a
theorem sx (js b:List Nat) {L1 R:List (List Nat)} {a R':gY} (h:Eng.pick js L=some (L1,R):=by rfl) (c:Eng.pick b O=some (a,R'):=by rfl):∀ w,St w0 Φ O L w→St w0 Φ a L1 w:=fun w hw=>(hw.sel h).selO c
def pks {β:Type}:List Nat→List β→Option (List β)
  | [],_=>some []
  | i :: is,L=>(match L[i]?,pks is L with
    | some a,some r=>some (a :: r)
    | _,_=>none)
theorem am {β:Type}:∀ (is:List Nat) {L A:List β},pks is L=some A→∀ e∈A,e∈L
  | [],L,A,h,e,he=>by cases h;cases he
  | i :: is,L,A,h,e,he=>by
    unfold pks at h
    split at h
    · rename_i a r b c
      cases h
      rcases List.mem_cons.1 he with rfl | he
      · exact List.mem_of_getElem? b
      · exact am is c e he
    · cases h
section
variable {P:Program} {fi n:Nat} {fn:Func}
theorem rt {α:Type} {x r:α} {f:α→Value} {a:ResultVar} {w0:aD Ψ0 H0 []} (b:P.funcs[fi]?=some fn) (h:some x=some r) (c:fn.results = #[a]:=by rfl) (d:xe P a l (St w0 Φ O L) (f x):=by rfl) :
    WT ⟨P,fi,n,lw (f r) w0.w⟩ (.code .ret :: k) l (St w0 Φ O L):=by
  cases h
  exact WT.ret b (by rw[c];exact az.one d) (fun w hw=>fe hw)
theorem rtg (js:List Nat) {v:Value} {As R:List (List Nat)} {Q:Hp→List (List Nat)→Value→Prop} (a:P.funcs[fi]?=some fn) (b:az P fn.results l (St w0 Φ O L) v) (hp:Eng.pick js L=some (As,R)) (c:∀ w,St w0 Φ O L w→Q Φ As v) :
    WT ⟨P,fi,n,bc H0 w0.w B0 Q⟩ (.code .ret :: k) l (St w0 Φ O L):=
  WT.ret a b (fun w hw=>aH hw hp (c w hw))
end
theorem pc {f:Nat} {xs:List Operand} {a:Array TypeId} {vs:List Value} {v:Value} (c:o.op = .call ⟨.value (.func f),xs.toArray,a⟩) (e:pm l xs=some vs)
    (h:∀ b:aD Φ Φ [],Calls g.P f vs.toArray b.w (lw v b.w)) (i:dq o g.n=some d) (hk:WL g k ops rest ((d,v) :: l) (St w0 Φ O L)) (j:Fun g.P f=true:=by kernel_rfl):WL g k ops (o :: rest) l (St w0 Φ O L):=
  lp (by rw[c];exact jk j e (fun w hw=>h (ba hw.fro))) i hk
theorem pz {f:Nat} {xs:List Operand} {a:Array TypeId} {vs:List Value} {v:Value} (c:o.op = .call ⟨.value (.func f),xs.toArray,a⟩) (e:pm l xs=some vs)
    (h:∀ b:aD Φ Φ [],Up Ψ0 Φ→Calls g.P f vs.toArray b.w (lw v b.w)) (i:dq o g.n=some d) (hk:WL g k ops rest ((d,v) :: l) (St w0 Φ O L)) (j:Fun g.P f=true:=by kernel_rfl):WL g k ops (o :: rest) l (St w0 Φ O L):=
  lp (by rw[c];exact jk j e (fun w hw=>h (ba hw.fro) hw.up)) i hk
theorem pd {f:Nat} {xs:List Operand} {a:Array TypeId} {vs:List Value} {v:Value} (c:o.op = .call ⟨.value (.func f),xs.toArray,a⟩) (e:pm l xs=some vs)
    (h:∀ b:aD Ψ0 Ψ0 [],Calls g.P f vs.toArray b.w (lw v b.w)) (i:dq o g.n=some d) (hk:WL g k ops rest ((d,v) :: l) (St w0 Φ O L)) (j:Fun g.P f=true:=by kernel_rfl):WL g k ops (o :: rest) l (St w0 Φ O L):=
  lp (by rw[c];exact jk j e (fun w hw=>h (ba hw.in0))) i hk
theorem kc (js:List Nat) {R:List (List Nat)} {f:Nat} {xs:List Operand} {a:Array TypeId} {vs:List Value} {As:List (List Nat)} {Q:Hp→List (List Nat)→Value→Prop} (c:o.op = .call ⟨.value (.func f),xs.toArray,a⟩) (e:pm l xs=some vs) (hp:Eng.pick js L=some (As,R))
    (h:∀ b:aD (off Φ As.flatten) Φ As.flatten,Ap w0 O As R→Up Ψ0 (off Φ As.flatten)→Calls g.P f vs.toArray b.w (bc Φ b.w As.flatten Q)) (i:dq o g.n=some d)
    (hk:∀ v Φ' Fs,Ap w0 O As R∧FrH As.flatten Φ Φ'∧Q Φ' Fs v→WL g k ops rest ((d,v) :: l) (St w0 Φ' O (Fs++R))) (j:Fun g.P f=true:=by kernel_rfl):WL g k ops (o :: rest) l (St w0 Φ O L):=
  lc (by rw[c];exact bH j e hp (fun w hw ap m=>h (bx hw ap m) ap (hw.uo ap))) i hk
theorem ka {f:Nat} {xs:List Operand} {a:Array TypeId} {vs:List Value} {Q:Hp→List (List Nat)→Value→Prop} (c:o.op = .call ⟨.value (.func f),xs.toArray,a⟩) (e:pm l xs=some vs)
    (h:∀ b:aD Φ Φ [],Up Ψ0 Φ→Calls g.P f vs.toArray b.w (bc Φ b.w [] Q)) (i:dq o g.n=some d)
    (hk:∀ v Φ' Fs,Ap w0 O [] L∧FrH [] Φ Φ'∧Q Φ' Fs v→WL g k ops rest ((d,v) :: l) (St w0 Φ' O (Fs++L))) (j:Fun g.P f=true:=by kernel_rfl):WL g k ops (o :: rest) l (St w0 Φ O L):=
  lc (by rw[c];exact bH (js:=[]) j e rfl (fun w hw ap m=>h (ba hw.fro) hw.up)) i hk
theorem wt0 (h:WT g k l (St w0 Φ O ([] :: L))):WT g k l (St w0 Φ O L):=WT.conv (fun _ hw=>hw.addNil) h
theorem wtS (h:WT g k l (St w0 Φ O (ob (.slice none 0 0) :: L))):WT g k l (St w0 Φ O L):=WT.conv (fun _ hw=>hw.addNil) h
theorem wl0 (h:WL g k ops rest l (St w0 Φ O ([] :: L))):WL g k ops rest l (St w0 Φ O L):=WL.conv (fun _ hw=>hw.addNil) h
theorem wlS (h:WL g k ops rest l (St w0 Φ O (ob (.slice none 0 0) :: L))):WL g k ops rest l (St w0 Φ O L):=WL.conv (fun _ hw=>hw.addNil) h
theorem wtL (a:List (List Nat)) (b:∀ w,St w0 Φ O L w→St w0 Φ O a w) (h:WT g k l (St w0 Φ O a)):WT g k l (St w0 Φ O L):=WT.conv b h
theorem wlL (a:List (List Nat)) (b:∀ w,St w0 Φ O L w→St w0 Φ O a w) (h:WL g k ops rest l (St w0 Φ O a)):WL g k ops rest l (St w0 Φ O L):=WL.conv b h
theorem sre (js:List Nat) (Bs:List (List Nat)) {As R:List (List Nat)} (hp:Eng.pick js L=some (As,R)) (a:SP Bs.flatten As.flatten):∀ w,St w0 Φ O L w→St w0 Φ O (Bs++R) w:=fun w hw=>hw.re hp a
theorem smg (js:List Nat) {As R:List (List Nat)} {F:List Nat} (hp:Eng.pick js L=some (As,R)) (a:SP F As.flatten):∀ w,St w0 Φ O L w→St w0 Φ O (F :: R) w:=fun w hw=>hw.merge hp a
inductive Sb (l:Env):Env→Prop
  | n:Sb l []
  | c {k:Nat} {v:Value} {r:Env} (h:Eng.lk l k=some v) (t:Sb l r):Sb l ((k,v) :: r)
theorem Sb.sub {l l':Env} (h:Sb l l'):Sub l l':=by
  induction h with
  | n=>trivial
  | c h _ a=>exact⟨h,a⟩
theorem lb (js a:List Nat) {c:Code} {l':Env} {L1 R:List (List Nat)} {b R':gY} (h:WT g (.code c :: .inLoop c :: k) l' (St w0 Φ b L1)) (d:Eng.pick js L=some (L1,R):=by rfl) (hO:Eng.pick a O=some (b,R'):=by rfl) (e:Sb l l':=by repeat constructor):WT g (.inLoop c :: k) l (St w0 Φ O L):=
  Mx h e.sub (sx js a d hO)
theorem wo (js a:List Nat) {l':Env} {L1 R:List (List Nat)} {b R':gY} (h:WT g k l' (St w0 Φ b L1)) (c:Eng.pick js L=some (L1,R):=by rfl) (hO:Eng.pick a O=some (b,R'):=by rfl) (d:Sb l l':=by repeat constructor):WT g k l (St w0 Φ O L):=
  wto h d.sub (sx js a c hO)
theorem ku {l':Env} (h:WL g k ops rest l' S) (a:Sb l l':=by repeat constructor):WL g k ops rest l S:=kk h a.sub
theorem kq {l':Env} (h:WQ g k ops rest l' S) (a:Sb l l':=by repeat constructor):WQ g k ops rest l S:=WQ.keep a.sub h
theorem lin {σ:Type} {c:Code} (env:σ→Env) (T:σ→World→Prop) (M:Nat→σ→Prop) (s:σ) (n:Nat) (h:M n s) (a:∀ w,S w→T s w)
    (b:∀ n,(∀ s,M n s→WT g (.code c :: .inLoop c :: k) (env s) (T s))→∀ s,M (n+1) s→WT g (.code c :: .inLoop c :: k) (env s) (T s)) (d:Sb l (env s):=by repeat constructor)
    (e:∀ s,M 0 s→False:=by intro s hm;first | exact EL hm | exact EL hm.1):WT g (.code (.loop c) :: k) l S:=
  IZ env T M s n h d.sub a e b
theorem H4 {p:Nat} {vs C C':List Value} (h:Put p vs C C'):o5 C p vs=C':=by
  induction h with
  | nil=>simp[o5]
  | hit h a=>simp only[o5,List.take_zero,List.nil_append,Nat.zero_add] at a ⊢;simpa using a
  | @skip p c vs C C' h a=>
    have:p+1+vs.length=p+vs.length+1:=by omega
    simp only[o5,List.take_succ_cons,List.cons_append,this,List.drop_succ_cons] at a ⊢
    rw[a]
abbrev wz (i:Int):Int:=IntKind.i64.wrap i
theorem us {P:Program} {α:Type} {R:Hp→List Nat→List Value→α→Prop} {e sz i:Nat} {D:List Nat} {v u:Value} {xs:List α} {cs cs':List Value} {t:Nat} {x y:Operand} (js:List Nat) (Rr:List (List Nat)) (o:Nat) (a:cB R) (b:Sz P t 1=true)
    (c:opv l x=some (.pointer (some ⟨sb v,so v+i*sz+o,none⟩))) (d:opv l y=some u) (h1:u.oneCell'=true) (hp:Eng.pick js L=some ([ob v],Rr)) (h:HSl R e sz Φ D v xs i cs) (f:Nat.ble (o+1) sz=true)
    (g:Ap w0 O [ob v] Rr→Dj D [ob v].flatten) (j:Put o [u] cs cs':=by repeat constructor) :
    OpU P (.store t x y) l (St w0 Φ O L) (fun Φ' k=>(Ap w0 O [ob v] Rr∧FrH [ob v].flatten Φ Φ')∧HSl R e sz Φ' D v xs i cs') (fun Φ' k=>St w0 Φ' O (ob v :: Rr)):=
  AR a b c d (d6 h1) rfl ⟨h1,trivial⟩ hp h f (H4 j) g
end Go.Proofs.YtedmfnmbjglmbaaGreat.Eng
