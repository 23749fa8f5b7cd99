/-
  The engine, part K: short steps, for shorter printed texts.
  Nothing here names a program.
-/
import Derived.Test.YtedmfnmbjglmbaaGreatEJ
namespace Go.Proofs.YtedmfnmbjglmbaaGreat.Eng
open Go.RowKit (Below wrap64)
set_option linter.unusedVariables false
set_option linter.unusedSimpArgs false

def pvB (b:BinOp) (u v:Value):Option Value:=match b,u,v with
  | .lss,.int k i,.int k' j=>bif decide (k=k') then some (.bool (decide (i < j))) else none
  | .leq,.int k i,.int k' j=>bif decide (k=k') then some (.bool (decide (i≤j))) else none
  | .gtr,.int k i,.int k' j=>bif decide (k=k') then some (.bool (decide (j < i))) else none
  | .geq,.int k i,.int k' j=>bif decide (k=k') then some (.bool (decide (j≤i))) else none
  | .eql,.int k i,.int k' j=>bif decide (k=k') then some (.bool (decide (i=j))) else none
  | .neq,.int k i,.int k' j=>bif decide (k=k') then some (.bool (!decide (i=j))) else none
  | .add,.int k i,.int k' j=>bif decide (k=k') then some (.int k (k.wrap (i+j))) else none
  | .sub,.int k i,.int k' j=>bif decide (k=k') then some (.int k (k.wrap (i - j))) else none
  | .mul,.int k i,.int k' j=>bif decide (k=k') then some (.int k (k.wrap (i*j))) else none
  | .eql,.string i,.string j=>some (.bool (seq i j))
  | .neq,.string i,.string j=>some (.bool (!seq i j))
  | _,_,_=>none
theorem kX {α:Type} {c:Bool} {x y:α} (h:(bif c then some x else none)=some y):c=true∧x=y:=by
  cases c with
  | false=>cases h
  | true=>exact ⟨rfl,by simpa using h⟩
theorem Jp {P:Program} {l:Env} {S:World→Prop} {b:BinOp} {x y:Operand} {t s:TypeId} {u v r:Value} (hx:opv l x=some u) (hy:opv l y=some v) (h:pvB b u v=some r):OpQ P (.binOp b t x y s) l S r:=by
  unfold pvB at h
  split at h
  · obtain ⟨h1,rfl⟩:=kX h; obtain rfl:=of_decide_eq_true h1; exact JV hx hy
  · obtain ⟨h1,rfl⟩:=kX h; obtain rfl:=of_decide_eq_true h1; exact JP hx hy
  · obtain ⟨h1,rfl⟩:=kX h; obtain rfl:=of_decide_eq_true h1; exact K0 hx hy
  · obtain ⟨h1,rfl⟩:=kX h; obtain rfl:=of_decide_eq_true h1; exact I1 hx hy
  · obtain ⟨h1,rfl⟩:=kX h; obtain rfl:=of_decide_eq_true h1; exact HO hx hy
  · obtain ⟨h1,rfl⟩:=kX h; obtain rfl:=of_decide_eq_true h1; exact Ko hx hy
  · obtain ⟨h1,rfl⟩:=kX h; obtain rfl:=of_decide_eq_true h1; exact HN hx hy
  · obtain ⟨h1,rfl⟩:=kX h; obtain rfl:=of_decide_eq_true h1; exact I4 hx hy
  · obtain ⟨h1,rfl⟩:=kX h; obtain rfl:=of_decide_eq_true h1; exact KM hx hy
  · cases h; exact K9 hx hy
  · cases h; exact Ki hx hy
  · cases h
def pv (op:Op) (l:Env):Option Value:=match op with
  | .move x=>opv l x
  | .assign x=>opv l x
  | .binOp b _ x y _=>(match opv l x,opv l y with
    | some u,some v=>pvB b u v
    | _,_=>none)
  | .unOp .not _ x=>(match opv l x with
    | some (.bool b)=>some (.bool (!b))
    | _=>none)
  | .pick c x y=>(match opv l c with
    | some (.bool true)=>opv l x
    | some (.bool false)=>opv l y
    | _=>none)
  | .extract x i=>(match opv l x with
    | some (.tuple vs)=>vs[i]?
    | _=>none)
  | _=>none
theorem A7 {P:Program} {l:Env} {S:World→Prop} {op:Op} {v:Value} (h:pv op l=some v):OpQ P op l S v:=by
  unfold pv at h
  split at h
  · exact ke h
  · exact EG h
  · split at h
    · exact Jp (by assumption) (by assumption) h
    · cases h
  · split at h
    · cases h; exact Kg (by assumption)
    · cases h
  · split at h
    · exact tM (by assumption) h
    · exact rK (by assumption) h
    · cases h
  · split at h
    · exact DU (by assumption) h
    · cases h
  · cases h

variable {g:G} {k:List Item} {ops:Array Oper} {rest:List Oper} {l:Env} {Ψ0 H0:Hp} {B0:List Nat} {w0:av Ψ0 H0 B0} {Φ Φ':Hp} {O:fT} {L:List (List Nat)} {w w':World} {S:World→Prop} {o:Oper} {d:Nat}

def stp (ops:Array Oper) (o:Oper) (n:Nat) (l:Env):Option (Nat × Value):=match o.guard with
  | none=>(match dq o n,pv o.op l with
    | some d,some v=>some (d,v)
    | _,_=>none)
  | some (j,b)=>(match yl ops l j,o.dst with
    | some (.bool t),some d=>(bif t == b then (match dq { o with guard:=none } n,pv o.op l with
        | some d,some v=>some (d,v)
        | _,_=>none) else bif Nat.blt d n then some (d,undef) else none)
    | _,_=>none)
theorem la {v:Value} (h:stp ops o g.n l=some (d,v)) (hk:WL g k ops rest ((d,v) :: l) S):WL g k ops (o :: rest) l S:=by
  unfold stp at h
  split at h
  · split at h
    · cases h; exact lq (A7 (by assumption)) (by assumption) hk
    · cases h
  · rename_i j b hg
    split at h
    · rename_i t d' hy hd
      by_cases he:t=b
      · subst he
        rw [beq_self_eq_true,cond_true] at h
        split at h
        · cases h; exact WL.yes hg hy (lq (o:={ o with guard:=none }) (A7 (by assumption)) (by assumption) hk)
        · cases h
      · have ht:t = !b:=by cases t <;> cases b <;> simp_all
        rw [beq_false_of_ne he,cond_false] at h
        cases hn:Nat.blt d' g.n with
        | false=>rw [hn] at h; cases h
        | true=>rw [hn] at h; cases h; exact WL.no hg (by rw [← ht]; exact hy) hd hn hk
    · cases h
theorem ly {j:Nat} {b:Bool} (hg:o.guard=some (j,b)) (hy:yl ops l j=some (.bool b))
    (h:WL g k ops ({ o with guard:=none } :: rest) l S):WL g k ops (o :: rest) l S:=WL.yes hg hy h
theorem lf {t i off:Nat} {x:Operand} {b p:Nat} (ht:Fld g.P t i off=true) (ho:o.op = .fieldAddr t x i) (hx:opv l x=some (.pointer (some ⟨b,p,none⟩))) (hd:dq o g.n=some d)
    (hk:WL g k ops rest ((d,.pointer (some ⟨b,p+off,none⟩)) :: l) S):WL g k ops (o :: rest) l S:=lq (by rw [ho]; exact aK ht hx) hd hk

def ldO (o:Oper) (n:Nat) (l:Env) (O:fT) (i:Nat):Option (Nat × Nat × Nat × Nat × List Value):=match o.op with
  | .load t x=>(match opv l x,O[i]?,dq o n with
    | some (.pointer (some ⟨b,p,none⟩)),some (b',.cells C _ _),some d=>some (t,b,b',d,C.toList.drop p)
    | _,_,_=>none)
  | _=>none
theorem AM {n i t b d:Nat} {r:List Value} (h:ldO o n l O i=some (t,b,b,d,r)):∃ x p C T fz,o.op = .load t x∧opv l x=some (.pointer (some ⟨b,p,none⟩))∧O[i]?=some (b,.cells C T fz)∧dq o n=some d∧C.toList.drop p=r:=by
  unfold ldO at h
  split at h
  · rename_i t' x ho
    split at h
    · cases h; exact ⟨x,_,_,_,_,ho,by assumption,by assumption,by assumption,rfl⟩
    · cases h
  · cases h
theorem ldN {t b n i:Nat} {cs r:List Value} (hT:Tn g.P t n=true) (h:ldO o g.n l O i=some (t,b,b,d,cs++r)) (hn:cs.length=n) (hk:WL g k ops rest ((d,.agg cs.toArray) :: l) (St w0 Φ O L)):WL g k ops (o :: rest) l (St w0 Φ O L):=by
  obtain ⟨x,p,C,T,fz,ho,hx,hO,hd,hr⟩:=AM h
  exact lq (by rw [ho]; exact aG hT hx (fun w hw=>hw.rgO hO p n cs (by rw [hr,← hn]; simp)) hn) hd hk
theorem lo {t b:Nat} {v:Value} {r:List Value} (hT:T1 g.P t=true) (i:Nat) (h:ldO o g.n l O i=some (t,b,b,d,v :: r)) (hk:WL g k ops rest ((d,v) :: l) (St w0 Φ O L)):WL g k ops (o :: rest) l (St w0 Φ O L):=by
  obtain ⟨x,p,C,T,fz,ho,hx,hO,hd,hr⟩:=AM h
  exact lq (by rw [ho]; exact cz hT hx (fun w hw=>hw.rgO hO p 1 [v] (by rw [hr]; simp))) hd hk
theorem ld2 {t b:Nat} {x0 x1:Value} {r:List Value} (hT:Tn g.P t 2=true) (i:Nat) (h:ldO o g.n l O i=some (t,b,b,d,x0 :: x1 :: r)) (hk:WL g k ops rest ((d,.agg [x0,x1].toArray) :: l) (St w0 Φ O L)):WL g k ops (o :: rest) l (St w0 Φ O L):=ldN (cs:=[x0,x1]) hT h rfl hk
theorem ld5 {t b:Nat} {x0 x1 x2 x3 x4:Value} {r:List Value} (hT:Tn g.P t 5=true) (i:Nat) (h:ldO o g.n l O i=some (t,b,b,d,x0 :: x1 :: x2 :: x3 :: x4 :: r)) (hk:WL g k ops rest ((d,.agg [x0,x1,x2,x3,x4].toArray) :: l) (St w0 Φ O L)):WL g k ops (o :: rest) l (St w0 Φ O L):=ldN (cs:=[x0,x1,x2,x3,x4]) hT h rfl hk
inductive Put:Nat→List Value→List Value→List Value→Prop
  | nil {C:List Value}:Put 0 [] C C
  | hit {v c:Value} {vs C C':List Value} (h:Put 0 vs C C'):Put 0 (v :: vs) (c :: C) (v :: C')
  | skip {p:Nat} {c:Value} {vs C C':List Value} (h:Put p vs C C'):Put (p+1) vs (c :: C) (c :: C')
theorem wF {c:Value}:∀ (vs C:List Value) (p:Nat),put (c :: C) (p+1) vs=c :: put C p vs
  | [],C,p=>rfl
  | v :: vs,C,p=>by rw [put,put,List.set_cons_succ,wF vs]
theorem Put.eq {p:Nat} {vs C C':List Value} (h:Put p vs C C'):put C p vs=C'∧p+vs.length≤C.length:=by
  induction h with
  | nil=>exact ⟨rfl,by simp⟩
  | hit h ih=>exact ⟨by rw [put,List.set_cons_zero,wF,ih.1],by have:=ih.2; simp at this ⊢; omega⟩
  | skip h ih=>exact ⟨by rw [wF,ih.1],by have:=ih.2; simp at this ⊢; omega⟩
inductive xw:Nat→Nat × Obj→fT→fT→Prop
  | hit {e a:Nat × Obj} {O:fT}:xw 0 e (a :: O) (e :: O)
  | skip {i:Nat} {e a:Nat × Obj} {O O':fT} (h:xw i e O O'):xw (i+1) e (a :: O) (a :: O')
theorem xw.eq {i:Nat} {e:Nat × Obj} {O O':fT} (h:xw i e O O'):O.set i e=O':=by
  induction h with
  | hit=>rfl
  | skip h ih=>rw [List.set_cons_succ,ih]
def stO (o:Oper) (l:Env) (O:fT) (i:Nat):Option (Nat × Nat × Nat × Nat × Array Value × Nat × (Nat × Nat) × Value):=match o.op with
  | .store t x y=>(match opv l x,O[i]?,opv l y,dz o with
    | some (.pointer (some ⟨b,p,none⟩)),some (b',.cells C T fz),some v,true=>some (t,b,b',p,C,T,fz,v)
    | _,_,_,_=>none)
  | _=>none
theorem tC {i t b p T:Nat} {C:Array Value} {v:Value} (h:stO o l O i=some (t,b,b,p,C,T,(0,0),v)):∃ x y,o.op = .store t x y∧opv l x=some (.pointer (some ⟨b,p,none⟩))∧O[i]?=some (b,.cells C T (0,0))∧opv l y=some v∧dz o=true:=by
  unfold stO at h
  split at h
  · rename_i t' x y ho
    split at h
    · cases h; exact ⟨x,y,ho,by assumption,by assumption,by assumption,by assumption⟩
    · cases h
  · cases h
theorem soN (i:Nat) {t n b p T:Nat} {Cl C' vs:List Value} {O':fT} (hz:Sz g.P t n=true) (h:stO o l O i=some (t,b,b,p,Cl.toArray,T,(0,0),.agg vs.toArray)) (h1:One vs) (hn:vs.length=n)
    (hk:WL g k ops rest l (St w0 Φ O' L)) (hp:Put p vs Cl C':=by repeat constructor) (hO:xw i (b,.cells C'.toArray T (0,0)) O O':=by repeat constructor):WL g k ops (o :: rest) l (St w0 Φ O L):=by
  obtain ⟨x,y,ho,hx,hi,hy,hd⟩:=tC h
  obtain ⟨h2,h3⟩:=hp.eq
  exact ls (by rw [ho]; exact vD hz hx hy hi (vs:=vs) rfl hn (Nat.ble_eq_true_of_le (by simp; omega)) h1 h2 hO.eq) hd hk
theorem so1 (i:Nat) {t b p T:Nat} {Cl C':List Value} {v:Value} {O':fT} (hz:Sz g.P t 1=true) (h:stO o l O i=some (t,b,b,p,Cl.toArray,T,(0,0),v)) (h1:v.oneCell'=true)
    (hk:WL g k ops rest l (St w0 Φ O' L)) (hp:Put p [v] Cl C':=by repeat constructor) (hO:xw i (b,.cells C'.toArray T (0,0)) O O':=by repeat constructor):WL g k ops (o :: rest) l (St w0 Φ O L):=by
  obtain ⟨x,y,ho,hx,hi,hy,hd⟩:=tC h
  obtain ⟨h2,h3⟩:=hp.eq
  exact ls (by rw [ho]; exact vD hz hx hy hi (dK h1) rfl (Nat.ble_eq_true_of_le (by simp at h3 ⊢; omega)) ⟨h1,trivial⟩ h2 hO.eq) hd hk

theorem GE {σ:Type} {c:Code} (env:σ→Env) (T:σ→World→Prop) (M:Nat→σ→Prop) (s:σ) (n:Nat) (h:M n s) (hl:Sub l (env s)) (hS:∀ w,S w→T s w) (h0:∀ s,M 0 s→False)
    (hs:∀ n,(∀ s,M n s→WT g (.code c :: .inLoop c :: k) (env s) (T s))→∀ s,M (n+1) s→WT g (.code c :: .inLoop c :: k) (env s) (T s)):WT g (.code (.loop c) :: k) l S:=
  WT.loop (WT.mono hl hS (FQ env T M h0 hs n s h))
theorem Kh {c:Code} {l':Env} {S':World→Prop} (h:WT g (.code c :: .inLoop c :: k) l' S') (hl:Sub l l') (hS:∀ w,S w→S' w):WT g (.inLoop c :: k) l S:=WT.inLoop (WT.mono hl hS h)
theorem wto {l':Env} {S':World→Prop} (h:WT g k l' S') (hl:Sub l l') (hS:∀ w,S w→S' w):WT g k l S:=WT.mono hl hS h

def Kf (Φ0:Hp) (F:List Nat) (Φ:Hp):Prop:=∀ k∈F,∀ o,Φ0 k=some o→Φ k=some o
theorem Kf.id {F:List Nat}:Kf Φ F Φ:=fun _ _ _ h=>h
theorem Kf.nil:Kf Φ [] Φ':=fun k hk _ _=>by cases hk
theorem Kf.st {Φ0:Hp} {F X:List Nat} (h:Kf Φ0 F Φ) (hf:FrH X Φ Φ') (hd:Dj F X):Kf Φ0 F Φ':=fun k hk o ho=>hf k o (hd k hk) (h k hk o ho)
theorem Kf.se {Φ0:Hp} {F:List Nat} (h:Kf Φ0 F Φ) (hf:FrH [] Φ Φ'):Kf Φ0 F Φ':=h.st hf (Dj.empty _)
theorem kn {Φ0:Hp} {F:List Nat} {O':fT} (hf:Kf Φ0 F Φ) (hs:∀ p∈O',p∈O):∀ w,St w0 Φ O L w→Kn w0 Φ0 F O' w:=fun w h=>Kn.of hf hs h
theorem ai3 {α:Type} {l:List α} {a b c:α} (i j m:Nat) (h:l[i]?=some a) (h':l[j]?=some b) (h'':l[m]?=some c):∀ e∈[a,b,c],e∈l:=y6.mem ⟨gM i h,gM j h',gM m h'',trivial⟩
theorem ma {v:Value} {kp:Nat→Bool} {fuel:Nat} {done:List Nat} {Sw:World→Prop} (i:Nat) (hi:ops[i]?=some o) (hB:qB ops kp done i=true) (hS:∀ w,Sw w→S w) (h:stp #[] o g.n l=some (d,v))
    (hk:WM g k ops S kp fuel (i :: done) ((d,v) :: l) Sw):WM g k ops S kp (fuel+1) done l Sw:=by
  unfold stp at h
  split at h
  · split at h
    · cases h; exact mq i hi hB hS (A7 (by assumption)) (by assumption) hk
    · cases h
  · rename_i j b hg
    have:yl (#[]:Array Oper) l j=none:=by simp [yl]
    rw [this] at h
    split at h
    · rename_i h5 _; cases h5
    · cases h

theorem nb {T:TypeId} {x:Operand} {C:Array Value} (hx:opv l x=some (.agg C)):OpN g.P (.box T x) l (St w0 Φ O L) (fun b=>.pointer (some ⟨b,0,none⟩)) (fun b=>St w0 Φ ((b,.cells C T (0,0)) :: O) L):=uY hx rfl
theorem nz {T:TypeId} {C:Array Value} (hz:Zr g.P T (.agg C)):OpN g.P (.alloc T) l (St w0 Φ O L) (fun b=>.pointer (some ⟨b,0,none⟩)) (fun b=>St w0 Φ ((b,.cells C T (0,0)) :: O) L):=mY hz rfl
theorem sL {P:Program} {α:Type} {R:Hp→List Nat→List Value→α→Prop} (hR:bQ R) {t e sz:Nat} {z:Value} (ht:Sl P t e sz=true) (hz:Zr P e z) (hzs:z.cells.size=sz) (hs0:Nat.blt 0 sz=true) :
    OpE P (.buildSlice t 0 #[]) l (St w0 Φ O L) (fun v Φ' D=>FrH [] Φ Φ'∧OSl R e sz Φ' [] v ([]:List α)) (fun v Φ' D=>St w0 Φ' O (ob v :: L)):=
  aV hR (vs:=[]) (C:=#[]) (Fs:=[]) ht hz hzs (by simp) hs0 rfl (by rw [Nat.zero_mul,ru]; rfl) rfl (RC.nil _ _ _) rfl (by simpa using Kw.nil)
theorem ms1 {kp:Nat→Bool} {fuel:Nat} {done:List Nat} {S:World→Prop} {j:Nat} (i:Nat) {t b p T:Nat} {Cl C':List Value} {v:Value} {O':fT} (hi:ops[j]?=some o) (hkeep:kp j=true→∀ w,St w0 Φ O' L w→S w) (hz:Sz g.P t 1=true) (h:stO o l O i=some (t,b,b,p,Cl.toArray,T,(0,0),v)) (h1:v.oneCell'=true)
    (hk:WM g k ops S kp fuel (j :: done) l (St w0 Φ O' L)) (hp:Put p [v] Cl C':=by repeat constructor) (hO:xw i (b,.cells C'.toArray T (0,0)) O O':=by repeat constructor):WI g k ops S kp fuel done j l (St w0 Φ O L):=by
  obtain ⟨x,y,ho,hx,hi',hy,hd⟩:=tC h
  obtain ⟨h2,h3⟩:=hp.eq
  exact ms hi hkeep (by rw [ho]; exact vD hz hx hy hi' (dK h1) rfl (Nat.ble_eq_true_of_le (by simp at h3 ⊢; omega)) ⟨h1,trivial⟩ h2 hO.eq) hd hk
theorem bs {α β:Type} {m:Option α} {f:α→Option β} {r:β} (h:m.bind f=some r):∃ x,m=some x∧f x=some r:=bind_some h

theorem cdh {β:Type} {a b z:β} {c:Operand} {x y:Code} {t:Bool} (hc:opv l c=some (.bool t)) (h:(if t=true then a else b)=z) (h1:t=true→a=z→WT g (.code x :: k) l S) (h2:t=false→b=z→WT g (.code y :: k) l S):WT g (.code (.cond c x y) :: k) l S:=
  WT.cond hc (fun e=>h1 e (ir h e)) (fun e=>h2 e (ik h e))
theorem spl {β:Type} {a b' z:β} (d:Nat) {b:Bool} (hd:lk l d=some (.bool b)) (h:(if b=true then a else b')=z) (h1:b=true→a=z→WL g k ops rest ((d,.bool true) :: l) S) (h2:b=false→b'=z→WL g k ops rest ((d,.bool false) :: l) S):WL g k ops rest l S:=
  WL.split hd (fun e=>h1 e (ir h e)) (fun e=>h2 e (ik h e))
theorem kk {l':Env} (h:WL g k ops rest l' S) (hl:Sub l l'):WL g k ops rest l S:=WL.keep hl h

theorem sq {x y:Code} (h:WT g (.code x :: .code y :: k) l S):WT g (.code (.seq x y) :: k) l S:=WT.seq h
theorem rgn {id:Nat} {os:List Oper} (h:WL g k os.toArray os l S):WT g (.code (.region id os.toArray false) :: k) l S:=WT.region h
theorem en (h:WT g k l S):WL g k ops [] l S:=WL.nil h
theorem blk {id:Nat} {c:Code} (h:WT g (.code c :: .inBlock id :: k) l S):WT g (.code (.block id c) :: k) l S:=WT.block h
theorem ib {id:Nat} (h:WT g k l S):WT g (.inBlock id :: k) l S:=WT.inBlock h
theorem xt {id:Nat} {k':List Item} (hk:exitTo id k=some k') (h:WT g k' l S):WT g (.code (.exit id) :: k) l S:=WT.exit hk h
theorem cd {c:Operand} {x y:Code} {t:Bool} (hc:opv l c=some (.bool t)) (h1:t=true→WT g (.code x :: k) l S) (h2:t=false→WT g (.code y :: k) l S):WT g (.code (.cond c x y) :: k) l S:=WT.cond hc h1 h2

instance (kd:IntKind):LS (RI kd):=⟨RI.lasts⟩
instance:LS RB:=⟨RB.lasts⟩
instance:LS RS:=⟨RS.lasts⟩
theorem eL {P:Program} {fn:Func} {n f:Nat} {c:Code} {vs:List Value} {R:Ending→World→Prop} (hf:P.funcs[f]?=some fn) (hb:fn.body=some c) (hn:fn.ntmps=n) (hk:Nat.ble vs.length n=true) {Ψ0 H0:Hp} {L:List (List Nat)} (w0:av Ψ0 H0 L.flatten)
    (h:P.funcs[f]?=some fn→WT ⟨P,f,n,R⟩ [.code c] (qV 0 vs) (St w0 H0 [] L)):Calls P f vs.toArray w0.w R:=
  enter hf hb hn hk (St.start L w0) (h hf)
section
variable {α:Type} {R:Hp→List Nat→List Value→α→Prop} {sz:Nat} {F:List Nat} {v:Value} {xs:List α} [LS R]
theorem tu (hr:RSl R sz Ψ0 F v xs) (h:RSl R sz Φ F v xs→WT g k l (St w0 Φ O L)):WT g k l (St w0 Φ O L):=fun a w hf hw=>h (hr.y hw.up) a w hf hw
theorem lu0 (hr:RSl R sz Ψ0 F v xs) (h:RSl R sz Φ F v xs→WL g k ops rest l (St w0 Φ O L)):WL g k ops rest l (St w0 Φ O L):=fun a w hf hw=>h (hr.y hw.up) a w hf hw
theorem luO {e:Nat} {D:List Nat} (hr:OSl R e sz Ψ0 D v xs) (h:OSl R e sz Φ D v xs→WL g k ops rest l (St w0 Φ O L)):WL g k ops rest l (St w0 Φ O L):=fun a w hf hw=>h (hr.y hw.up) a w hf hw
end
end Go.Proofs.YtedmfnmbjglmbaaGreat.Eng
