/-
  The engine, part K: short steps, for shorter printed texts.
  Nothing here names a program.
-/
import Derived.Test.YtedmfnmbjglmbaaGreatEJ
namespace Go.Proofs.YtedmfnmbjglmbaaGreat.Eng
open Go.RowKit (Below wrap64)
set_option linter.unusedVariables false
set_option linter.unusedSimpArgs false

def pvB (b:BinOp) (u v:Value):Option Value:=match b,u,v with
  | .lss,.int k i,.int a j=>bif decide (k=a) then some (.bool (decide (i < j))) else none
  | .leq,.int k i,.int a j=>bif decide (k=a) then some (.bool (decide (i≤j))) else none
  | .gtr,.int k i,.int a j=>bif decide (k=a) then some (.bool (decide (j < i))) else none
  | .geq,.int k i,.int a j=>bif decide (k=a) then some (.bool (decide (j≤i))) else none
  | .eql,.int k i,.int a j=>bif decide (k=a) then some (.bool (decide (i=j))) else none
  | .neq,.int k i,.int a j=>bif decide (k=a) then some (.bool (!decide (i=j))) else none
  | .add,.int k i,.int a j=>bif decide (k=a) then some (.int k (k.wrap (i+j))) else none
  | .sub,.int k i,.int a j=>bif decide (k=a) then some (.int k (k.wrap (i - j))) else none
  | .mul,.int k i,.int a j=>bif decide (k=a) then some (.int k (k.wrap (i*j))) else none
  | .eql,.string i,.string j=>some (.bool (seq i j))
  | .neq,.string i,.string j=>some (.bool (!seq i j))
  | _,_,_=>none
theorem mo {α:Type} {c:Bool} {x y:α} (h:(bif c then some x else none)=some y):c=true∧x=y:=by
  cases c with
  | false=>cases h
  | true=>exact⟨rfl,by simpa using h⟩
theorem KY {P:Program} {l:Env} {S:World→Prop} {b:BinOp} {x y:Operand} {t s:TypeId} {u v r:Value} (a:opv l x=some u) (c:opv l y=some v) (h:pvB b u v=some r):OpQ P (.binOp b t x y s) l S r:=by
  unfold pvB at h
  split at h
  · obtain⟨h1,rfl⟩:=mo h;obtain rfl:=of_decide_eq_true h1;exact MF a c
  · obtain⟨h1,rfl⟩:=mo h;obtain rfl:=of_decide_eq_true h1;exact Mq a c
  · obtain⟨h1,rfl⟩:=mo h;obtain rfl:=of_decide_eq_true h1;exact Mw a c
  · obtain⟨h1,rfl⟩:=mo h;obtain rfl:=of_decide_eq_true h1;exact K7 a c
  · obtain⟨h1,rfl⟩:=mo h;obtain rfl:=of_decide_eq_true h1;exact Mt a c
  · obtain⟨h1,rfl⟩:=mo h;obtain rfl:=of_decide_eq_true h1;exact Mj a c
  · obtain⟨h1,rfl⟩:=mo h;obtain rfl:=of_decide_eq_true h1;exact Ke a c
  · obtain⟨h1,rfl⟩:=mo h;obtain rfl:=of_decide_eq_true h1;exact EO a c
  · obtain⟨h1,rfl⟩:=mo h;obtain rfl:=of_decide_eq_true h1;exact MR a c
  · cases h;exact MT a c
  · cases h;exact M8 a c
  · cases h
def pv (op:Op) (l:Env):Option Value:=match op with
  | .move x=>opv l x
  | .assign x=>opv l x
  | .binOp b _ x y _=>(match opv l x,opv l y with
    | some u,some v=>pvB b u v
    | _,_=>none)
  | .unOp .not _ x=>(match opv l x with
    | some (.bool b)=>some (.bool (!b))
    | _=>none)
  | .pick c x y=>(match opv l c with
    | some (.bool true)=>opv l x
    | some (.bool false)=>opv l y
    | _=>none)
  | .extract x i=>(match opv l x with
    | some (.tuple vs)=>vs[i]?
    | _=>none)
  | _=>none
theorem BK {P:Program} {l:Env} {S:World→Prop} {op:Op} {v:Value} (h:pv op l=some v):OpQ P op l S v:=by
  unfold pv at h
  split at h
  · exact iZ h
  · exact HN h
  · split at h
    · exact KY (by assumption) (by assumption) h
    · cases h
  · split at h
    · cases h;exact LY (by assumption)
    · cases h
  · split at h
    · exact Av (by assumption) h
    · exact rQ (by assumption) h
    · cases h
  · split at h
    · exact Fe (by assumption) h
    · cases h
  · cases h

variable {g:G} {k:List Item} {ops:Array Oper} {rest:List Oper} {l:Env} {Ψ0 H0:Hp} {B0:List Nat} {w0:aD Ψ0 H0 B0} {Φ Φ':Hp} {O:gY} {L:List (List Nat)} {w w':World} {S:World→Prop} {o:Oper} {d:Nat}

def stp (ops:Array Oper) (o:Oper) (n:Nat) (l:Env):Option (Nat × Value):=match o.guard with
  | none=>(match dq o n,pv o.op l with
    | some d,some v=>some (d,v)
    | _,_=>none)
  | some (j,b)=>(match yl ops l j,o.dst with
    | some (.bool t),some d=>(bif t == b then (match dq { o with guard:=none } n,pv o.op l with
        | some d,some v=>some (d,v)
        | _,_=>none) else bif Nat.blt d n then some (d,undef) else none)
    | _,_=>none)
theorem la {v:Value} (h:stp ops o g.n l=some (d,v)) (hk:WL g k ops rest ((d,v) :: l) S):WL g k ops (o :: rest) l S:=by
  unfold stp at h
  split at h
  · split at h
    · cases h;exact lq (BK (by assumption)) (by assumption) hk
    · cases h
  · rename_i j b c
    split at h
    · rename_i t f e i
      by_cases he:t=b
      · subst he
        rw[beq_self_eq_true,cond_true] at h
        split at h
        · cases h;exact WL.yes c e (lq (o:={ o with guard:=none }) (BK (by assumption)) (by assumption) hk)
        · cases h
      · have m:t = !b:=by cases t <;> cases b <;> simp_all
        rw[beq_false_of_ne he,cond_false] at h
        cases a:Nat.blt f g.n with
        | false=>rw[a] at h;cases h
        | true=>rw[a] at h;cases h;exact WL.no c (by rw[← m];exact e) i a hk
    · cases h
theorem ly {j:Nat} {b:Bool} (a:o.guard=some (j,b)) (c:yl ops l j=some (.bool b))
    (h:WL g k ops ({ o with guard:=none } :: rest) l S):WL g k ops (o :: rest) l S:=WL.yes a c h
theorem lf {t i off:Nat} {x:Operand} {b p:Nat} (a:Fld g.P t i off=true) (c:o.op = .fieldAddr t x i) (e:opv l x=some (.pointer (some ⟨b,p,none⟩))) (f:dq o g.n=some d)
    (hk:WL g k ops rest ((d,.pointer (some ⟨b,p+off,none⟩)) :: l) S):WL g k ops (o :: rest) l S:=lq (by rw[c];exact ax a e) f hk

def ldO (o:Oper) (n:Nat) (l:Env) (O:gY) (i:Nat):Option (Nat × Nat × Nat × Nat × List Value):=match o.op with
  | .load t x=>(match opv l x,O[i]?,dq o n with
    | some (.pointer (some ⟨b,p,none⟩)),some (a,.cells C _ _),some d=>some (t,b,a,d,C.toList.drop p)
    | _,_,_=>none)
  | _=>none
theorem BD {n i t b d:Nat} {r:List Value} (h:ldO o n l O i=some (t,b,b,d,r)):∃ x p C T a,o.op = .load t x∧opv l x=some (.pointer (some ⟨b,p,none⟩))∧O[i]?=some (b,.cells C T a)∧dq o n=some d∧C.toList.drop p=r:=by
  unfold ldO at h
  split at h
  · rename_i e x c
    split at h
    · cases h;exact⟨x,_,_,_,_,c,by assumption,by assumption,by assumption,rfl⟩
    · cases h
  · cases h
theorem ldN {t b n i:Nat} {cs r:List Value} (c:Tn g.P t n=true) (h:ldO o g.n l O i=some (t,b,b,d,cs++r)) (a:cs.length=n) (hk:WL g k ops rest ((d,.agg cs.toArray) :: l) (St w0 Φ O L)):WL g k ops (o :: rest) l (St w0 Φ O L):=by
  obtain⟨x,p,C,T,q,e,f,hO,j,m⟩:=BD h
  exact lq (by rw[e];exact aw c f (fun w hw=>hw.rgO hO p n cs (by rw[m,← a];simp)) a) j hk
theorem lo {t b:Nat} {v:Value} {r:List Value} (a:T1 g.P t=true) (i:Nat) (h:ldO o g.n l O i=some (t,b,b,d,v :: r)) (hk:WL g k ops rest ((d,v) :: l) (St w0 Φ O L)):WL g k ops (o :: rest) l (St w0 Φ O L):=by
  obtain⟨x,p,C,T,m,c,e,hO,f,j⟩:=BD h
  exact lq (by rw[c];exact aZ a e (fun w hw=>hw.rgO hO p 1 [v] (by rw[j];simp))) f hk
theorem ld2 {t b:Nat} {a c:Value} {r:List Value} (e:Tn g.P t 2=true) (i:Nat) (h:ldO o g.n l O i=some (t,b,b,d,a :: c :: r)) (hk:WL g k ops rest ((d,.agg [a,c].toArray) :: l) (St w0 Φ O L)):WL g k ops (o :: rest) l (St w0 Φ O L):=ldN (cs:=[a,c]) e h rfl hk
theorem ld5 {t b:Nat} {a c e f j:Value} {r:List Value} (m:Tn g.P t 5=true) (i:Nat) (h:ldO o g.n l O i=some (t,b,b,d,a :: c :: e :: f :: j :: r)) (hk:WL g k ops rest ((d,.agg [a,c,e,f,j].toArray) :: l) (St w0 Φ O L)):WL g k ops (o :: rest) l (St w0 Φ O L):=ldN (cs:=[a,c,e,f,j]) m h rfl hk
inductive Put:Nat→List Value→List Value→List Value→Prop
  | nil {C:List Value}:Put 0 [] C C
  | hit {v c:Value} {vs C C':List Value} (h:Put 0 vs C C'):Put 0 (v :: vs) (c :: C) (v :: C')
  | skip {p:Nat} {c:Value} {vs C C':List Value} (h:Put p vs C C'):Put (p+1) vs (c :: C) (c :: C')
theorem yC {c:Value}:∀ (vs C:List Value) (p:Nat),put (c :: C) (p+1) vs=c :: put C p vs
  | [],C,p=>rfl
  | v :: vs,C,p=>by rw[put,put,List.set_cons_succ,yC vs]
theorem Put.eq {p:Nat} {vs C C':List Value} (h:Put p vs C C'):put C p vs=C'∧p+vs.length≤C.length:=by
  induction h with
  | nil=>exact⟨rfl,NS⟩
  | hit h a=>exact⟨by rw[put,List.set_cons_zero,yC,a.1],by have:=a.2;simp at this ⊢;omega⟩
  | skip h a=>exact⟨by rw[yC,a.1],by have:=a.2;simp at this ⊢;omega⟩
inductive zp:Nat→Nat × Obj→gY→gY→Prop
  | hit {e a:Nat × Obj} {O:gY}:zp 0 e (a :: O) (e :: O)
  | skip {i:Nat} {e a:Nat × Obj} {O O':gY} (h:zp i e O O'):zp (i+1) e (a :: O) (a :: O')
theorem zp.eq {i:Nat} {e:Nat × Obj} {O O':gY} (h:zp i e O O'):O.set i e=O':=by
  induction h with
  | hit=>rfl
  | skip h a=>rw[List.set_cons_succ,a]
def stO (o:Oper) (l:Env) (O:gY) (i:Nat):Option (Nat × Nat × Nat × Nat × Array Value × Nat × (Nat × Nat) × Value):=match o.op with
  | .store t x y=>(match opv l x,O[i]?,opv l y,dz o with
    | some (.pointer (some ⟨b,p,none⟩)),some (a,.cells C T c),some v,true=>some (t,b,a,p,C,T,c,v)
    | _,_,_,_=>none)
  | _=>none
theorem vl {i t b p T:Nat} {C:Array Value} {v:Value} (h:stO o l O i=some (t,b,b,p,C,T,(0,0),v)):∃ x y,o.op = .store t x y∧opv l x=some (.pointer (some ⟨b,p,none⟩))∧O[i]?=some (b,.cells C T (0,0))∧opv l y=some v∧dz o=true:=by
  unfold stO at h
  split at h
  · rename_i c x y a
    split at h
    · cases h;exact⟨x,y,a,by assumption,by assumption,by assumption,by assumption⟩
    · cases h
  · cases h
theorem soN (i:Nat) {t n b p T:Nat} {a C' vs:List Value} {O':gY} (c:Sz g.P t n=true) (h:stO o l O i=some (t,b,b,p,a.toArray,T,(0,0),.agg vs.toArray)) (h1:One vs) (d:vs.length=n)
    (hk:WL g k ops rest l (St w0 Φ O' L)) (hp:Put p vs a C':=by repeat constructor) (hO:zp i (b,.cells C'.toArray T (0,0)) O O':=by repeat constructor):WL g k ops (o :: rest) l (St w0 Φ O L):=by
  obtain⟨x,y,e,f,j,m,q⟩:=vl h
  obtain⟨r,s⟩:=hp.eq
  exact ls (by rw[e];exact xB c f m j (vs:=vs) rfl d (K1 (by simp;omega)) h1 r hO.eq) q hk
theorem so1 (i:Nat) {t b p T:Nat} {a C':List Value} {v:Value} {O':gY} (c:Sz g.P t 1=true) (h:stO o l O i=some (t,b,b,p,a.toArray,T,(0,0),v)) (h1:v.oneCell'=true)
    (hk:WL g k ops rest l (St w0 Φ O' L)) (hp:Put p [v] a C':=by repeat constructor) (hO:zp i (b,.cells C'.toArray T (0,0)) O O':=by repeat constructor):WL g k ops (o :: rest) l (St w0 Φ O L):=by
  obtain⟨x,y,d,e,f,j,m⟩:=vl h
  obtain⟨n,q⟩:=hp.eq
  exact ls (by rw[d];exact xB c e j f (d6 h1) rfl (K1 (by simp at q ⊢;omega)) ⟨h1,trivial⟩ n hO.eq) m hk

theorem IZ {σ:Type} {c:Code} (env:σ→Env) (T:σ→World→Prop) (M:Nat→σ→Prop) (s:σ) (n:Nat) (h:M n s) (a:Sub l (env s)) (b:∀ w,S w→T s w) (d:∀ s,M 0 s→False)
    (e:∀ n,(∀ s,M n s→WT g (.code c :: .inLoop c :: k) (env s) (T s))→∀ s,M (n+1) s→WT g (.code c :: .inLoop c :: k) (env s) (T s)):WT g (.code (.loop c) :: k) l S:=
  WT.loop (WT.mono a b (H1 env T M d e n s h))
theorem Mx {c:Code} {l':Env} {S':World→Prop} (h:WT g (.code c :: .inLoop c :: k) l' S') (a:Sub l l') (b:∀ w,S w→S' w):WT g (.inLoop c :: k) l S:=WT.inLoop (WT.mono a b h)
theorem wto {l':Env} {S':World→Prop} (h:WT g k l' S') (a:Sub l l') (b:∀ w,S w→S' w):WT g k l S:=WT.mono a b h

def Kf (a:Hp) (F:List Nat) (Φ:Hp):Prop:=∀ k∈F,∀ o,a k=some o→Φ k=some o
theorem Kf.id {F:List Nat}:Kf Φ F Φ:=fun _ _ _ h=>h
theorem Kf.nil:Kf Φ [] Φ':=fun k hk _ _=>by cases hk
theorem Kf.st {a:Hp} {F X:List Nat} (h:Kf a F Φ) (b:FrH X Φ Φ') (c:Dj F X):Kf a F Φ':=fun k hk o d=>b k o (c k hk) (h k hk o d)
theorem Kf.se {a:Hp} {F:List Nat} (h:Kf a F Φ) (b:FrH [] Φ Φ'):Kf a F Φ':=h.st b (Dj.empty _)
theorem kn {a:Hp} {F:List Nat} {O':gY} (b:Kf a F Φ) (c:∀ p∈O',p∈O):∀ w,St w0 Φ O L w→Kn w0 a F O' w:=fun w h=>Kn.of b c h
theorem ai3 {α:Type} {l:List α} {a b c:α} (i j m:Nat) (h:l[i]?=some a) (d:l[j]?=some b) (f:l[m]?=some c):∀ e∈[a,b,c],e∈l:=zT.mem ⟨gM i h,gM j d,gM m f,trivial⟩
theorem ma {v:Value} {a:Nat→Bool} {fuel:Nat} {done:List Nat} {c:World→Prop} (i:Nat) (e:ops[i]?=some o) (f:qB ops a done i=true) (m:∀ w,c w→S w) (h:stp #[] o g.n l=some (d,v))
    (hk:WM g k ops S a fuel (i :: done) ((d,v) :: l) c):WM g k ops S a (fuel+1) done l c:=by
  unfold stp at h
  split at h
  · split at h
    · cases h;exact mq i e f m (BK (by assumption)) (by assumption) hk
    · cases h
  · rename_i j b p
    have:yl (#[]:Array Oper) l j=none:=by simp[yl]
    rw[this] at h
    split at h
    · rename_i n _;cases n
    · cases h

theorem nb {T:TypeId} {x:Operand} {C:Array Value} (a:opv l x=some (.agg C)):OpN g.P (.box T x) l (St w0 Φ O L) (fun b=>.pointer (some ⟨b,0,none⟩)) (fun b=>St w0 Φ ((b,.cells C T (0,0)) :: O) L):=wM a rfl
theorem nz {T:TypeId} {C:Array Value} (a:Zr g.P T (.agg C)):OpN g.P (.alloc T) l (St w0 Φ O L) (fun b=>.pointer (some ⟨b,0,none⟩)) (fun b=>St w0 Φ ((b,.cells C T (0,0)) :: O) L):=ip a rfl
theorem lJ {P:Program} {α:Type} {R:Hp→List Nat→List Value→α→Prop} (a:cB R) {t e sz:Nat} {z:Value} (b:Sl P t e sz=true) (c:Zr P e z) (d:z.cells.size=sz) (f:Nat.blt 0 sz=true) :
    OpE P (.buildSlice t 0 #[]) l (St w0 Φ O L) (fun v Φ' D=>FrH [] Φ Φ'∧OSl R e sz Φ' [] v ([]:List α)) (fun v Φ' D=>St w0 Φ' O (ob v :: L)):=
  bz a (vs:=[]) (C:=#[]) (Fs:=[]) b c d NS f rfl (by rw[Nat.zero_mul,sy];rfl) rfl (RC.nil _ _ _) rfl (by simpa using Kw.nil)
theorem ms1 {a:Nat→Bool} {fuel:Nat} {done:List Nat} {S:World→Prop} {j:Nat} (i:Nat) {t b p T:Nat} {c C':List Value} {v:Value} {O':gY} (d:ops[j]?=some o) (e:a j=true→∀ w,St w0 Φ O' L w→S w) (f:Sz g.P t 1=true) (h:stO o l O i=some (t,b,b,p,c.toArray,T,(0,0),v)) (h1:v.oneCell'=true)
    (hk:WM g k ops S a fuel (j :: done) l (St w0 Φ O' L)) (hp:Put p [v] c C':=by repeat constructor) (hO:zp i (b,.cells C'.toArray T (0,0)) O O':=by repeat constructor):WI g k ops S a fuel done j l (St w0 Φ O L):=by
  obtain⟨x,y,m,n,q,r,s⟩:=vl h
  obtain⟨u,z⟩:=hp.eq
  exact ms d e (by rw[m];exact xB f n r q (d6 h1) rfl (K1 (by simp at z ⊢;omega)) ⟨h1,trivial⟩ u hO.eq) s hk
theorem bs {α β:Type} {m:Option α} {f:α→Option β} {r:β} (h:m.bind f=some r):∃ x,m=some x∧f x=some r:=bind_some h

theorem cdh {β:Type} {a b z:β} {c:Operand} {x y:Code} {t:Bool} (d:opv l c=some (.bool t)) (h:(if t=true then a else b)=z) (h1:t=true→a=z→WT g (.code x :: k) l S) (f:t=false→b=z→WT g (.code y :: k) l S):WT g (.code (.cond c x y) :: k) l S:=
  WT.cond d (fun e=>h1 e (lP h e)) (fun e=>f e (mb h e))
theorem spl {β:Type} {a c z:β} (d:Nat) {b:Bool} (f:lk l d=some (.bool b)) (h:(if b=true then a else c)=z) (h1:b=true→a=z→WL g k ops rest ((d,.bool true) :: l) S) (i:b=false→c=z→WL g k ops rest ((d,.bool false) :: l) S):WL g k ops rest l S:=
  WL.split f (fun e=>h1 e (lP h e)) (fun e=>i e (mb h e))
theorem kk {l':Env} (h:WL g k ops rest l' S) (a:Sub l l'):WL g k ops rest l S:=WL.keep a h

theorem sq {x y:Code} (h:WT g (.code x :: .code y :: k) l S):WT g (.code (.seq x y) :: k) l S:=WT.seq h
theorem en (h:WT g k l S):WL g k ops [] l S:=WL.nil h
theorem blk {id:Nat} {c:Code} (h:WT g (.code c :: .inBlock id :: k) l S):WT g (.code (.block id c) :: k) l S:=WT.block h
theorem xt {id:Nat} {a:List Item} (hk:exitTo id k=some a) (h:WT g a l S):WT g (.code (.exit id) :: k) l S:=WT.exit hk h
theorem cd {c:Operand} {x y:Code} {t:Bool} (a:opv l c=some (.bool t)) (h1:t=true→WT g (.code x :: k) l S) (b:t=false→WT g (.code y :: k) l S):WT g (.code (.cond c x y) :: k) l S:=WT.cond a h1 b

instance (kd:IntKind):LS (RI kd):=⟨RI.lasts⟩
instance:LS RB:=⟨RB.lasts⟩
instance:LS RS:=⟨RS.lasts⟩
theorem eL {P:Program} {fn:Func} {n f:Nat} {c:Code} {vs:List Value} {R:Ending→World→Prop} (a:P.funcs[f]?=some fn) (b:fn.body=some c) (d:fn.ntmps=n) (hk:Nat.ble vs.length n=true) {Ψ0 H0:Hp} {L:List (List Nat)} (w0:aD Ψ0 H0 L.flatten)
    (h:P.funcs[f]?=some fn→WT ⟨P,f,n,R⟩ [.code c] (sC 0 vs) (St w0 H0 [] L)):Calls P f vs.toArray w0.w R:=
  enter a b d hk (St.start L w0) (h a)
section
variable {α:Type} {R:Hp→List Nat→List Value→α→Prop} {sz:Nat} {F:List Nat} {v:Value} {xs:List α} [LS R]
theorem lu0 (b:RSl R sz Ψ0 F v xs) (h:RSl R sz Φ F v xs→WL g k ops rest l (St w0 Φ O L)):WL g k ops rest l (St w0 Φ O L):=fun a w c hw=>h (b.y hw.up) a w c hw
theorem luO {e:Nat} {D:List Nat} (b:OSl R e sz Ψ0 D v xs) (h:OSl R e sz Φ D v xs→WL g k ops rest l (St w0 Φ O L)):WL g k ops rest l (St w0 Φ O L):=fun a w c hw=>h (b.y hw.up) a w c hw
theorem mu0 {b:Nat→Bool} {fuel:Nat} {done:List Nat} (c:RSl R sz Ψ0 F v xs) (h:RSl R sz Φ F v xs→WM g k ops S b fuel done l (St w0 Φ O L)):WM g k ops S b fuel done l (St w0 Φ O L):=fun a w d hw=>h (c.y hw.up) a w d hw
theorem iu0 {S:World→Prop} {b:Nat→Bool} {fuel i:Nat} {done:List Nat} (c:RSl R sz Ψ0 F v xs) (h:RSl R sz Φ F v xs→WI g k ops S b fuel done i l (St w0 Φ O L)):WI g k ops S b fuel done i l (St w0 Φ O L):=fun a w d hw=>h (c.y hw.up) a w d hw
end
end Go.Proofs.YtedmfnmbjglmbaaGreat.Eng
