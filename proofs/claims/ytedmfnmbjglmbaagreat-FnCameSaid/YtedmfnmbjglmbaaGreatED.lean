/-
  The engine, part D: operations that change the world.
  Nothing here names a program.
-/
import Derived.Test.YtedmfnmbjglmbaaGreatEC
import Derived.ArgAppend
import Derived.Laws.CopyRow
namespace Go.Proofs.YtedmfnmbjglmbaaGreat.Eng
open Go.RowKit (Below wrap64)
set_option linter.unusedVariables false
set_option linter.unusedSimpArgs false

variable {g:G} {k:List Item} {ops:Array Oper} {rest:List Oper} {l:Env} {Ψ0 H0:Hp} {B0:List Nat} {w0:aD Ψ0 H0 B0} {Φ:Hp} {O:gY} {L:List (List Nat)} {w w':World} {S:World→Prop} {P:Program}

def OpN (P:Program) (op:Op) (l:Env) (S:World→Prop) (v:Nat→Value) (T:Nat→World→Prop):Prop:=
  ∀ (n:Nat) (a:Act) (w:World) (o:Oper),o.op=op→Eng.Fr n l a→S w→∃ b w',(execOp a.eval o).run P w = .ok (.value (v b)) w'∧T b w'
def OpE (P:Program) (op:Op) (l:Env) (S:World→Prop) (Q:Value→Hp→List Nat→Prop) (T:Value→Hp→List Nat→World→Prop):Prop:=
  ∀ (n:Nat) (a:Act) (w:World) (o:Oper),o.op=op→Eng.Fr n l a→S w→∃ v b D w',(execOp a.eval o).run P w = .ok (.value v) w'∧Q v b D∧T v b D w'
def OpS (P:Program) (op:Op) (l:Env) (S:World→Prop) (T:World→Prop):Prop:=
  ∀ (n:Nat) (a:Act) (w:World) (o:Oper),o.op=op→Eng.Fr n l a→S w→∃ w',(execOp a.eval o).run P w = .ok .skip w'∧T w'
def OpU (P:Program) (op:Op) (l:Env) (S:World→Prop) (Q:Hp→List Nat→Prop) (T:Hp→List Nat→World→Prop):Prop:=
  ∀ (n:Nat) (a:Act) (w:World) (o:Oper),o.op=op→Eng.Fr n l a→S w→∃ b D w',(execOp a.eval o).run P w = .ok .skip w'∧Q b D∧T b D w'
def OpK (P:Program) (op:Op) (l:Env) (S:World→Prop) (Q:Value→Hp→List (List Nat)→Prop) (T:Value→Hp→List (List Nat)→World→Prop):Prop:=
  ∀ (n:Nat) (a:Act) (w:World) (o:Oper),o.op=op→Eng.Fr n l a→S w→∃ f args,(execOp a.eval o).run P w = .ok (.enter f args) w∧Calls P f args w fun e w'=>∃ v b D,e = .returned v∧Q v b D∧T v b D w'
def OpP (P:Program) (op:Op) (l:Env) (S:World→Prop) (v:Value):Prop:=
  ∀ (n:Nat) (a:Act) (w:World) (o:Oper),o.op=op→Eng.Fr n l a→S w→∃ f args,(execOp a.eval o).run P w = .ok (.enter f args) w∧Calls P f args w fun e w'=>e = .returned v∧S w'

theorem WL.n {o:Oper} {d:Nat} {v:Nat→Value} {T:Nat→World→Prop} (c:OpN g.P o.op l S v T) (e:o.guard=none) (f:o.dst=some d) (i:Nat.blt d g.n=true)
    (h:∀ b,WL g k ops rest ((d,v b) :: l) (T b)):WL g k ops (o :: rest) l S:=
  WL.eff (fun a w j hw=>c g.n a w o rfl j hw) e f i h
theorem WL.e {o:Oper} {d:Nat} {Q:Value→Hp→List Nat→Prop} {T:Value→Hp→List Nat→World→Prop} (e:OpE g.P o.op l S Q T) (f:o.guard=none) (i:o.dst=some d) (j:Nat.blt d g.n=true)
    (h:∀ v b D,Q v b D→WL g k ops rest ((d,v) :: l) (T v b D)):WL g k ops (o :: rest) l S:=
  WL.eff (α:=Value × Hp × List Nat) (v:=fun x=>x.1) (S':=fun x w=>Q x.1 x.2.1 x.2.2∧T x.1 x.2.1 x.2.2 w) (fun a w c hw=>by
    obtain⟨v,b,D,w',h1,m,n⟩:=e g.n a w o rfl c hw
    exact⟨(v,b,D),w',h1,m,n⟩) f i j (fun x a w c hw=>h x.1 x.2.1 x.2.2 hw.1 a w c hw.2)
theorem WL.s {o:Oper} {T:World→Prop} (b:OpS g.P o.op l S T) (c:o.guard=none) (d:o.dst=none) (h:WL g k ops rest l T):WL g k ops (o :: rest) l S:=
  WL.effU (α:=Unit) (S':=fun _=>T) (fun a w e hw=>by
    obtain⟨w',h1,f⟩:=b g.n a w o rfl e hw
    exact⟨(),w',h1,f⟩) c d (fun _=>h)
theorem WL.u {o:Oper} {Q:Hp→List Nat→Prop} {T:Hp→List Nat→World→Prop} (d:OpU g.P o.op l S Q T) (e:o.guard=none) (f:o.dst=none) (h:∀ b D,Q b D→WL g k ops rest l (T b D)):WL g k ops (o :: rest) l S:=
  WL.effU (α:=Hp × List Nat) (S':=fun x w=>Q x.1 x.2∧T x.1 x.2 w) (fun a w c hw=>by
    obtain⟨b,D,w',h1,i,j⟩:=d g.n a w o rfl c hw
    exact⟨(b,D),w',h1,i,j⟩) e f (fun x a w c hw=>h x.1 x.2 hw.1 a w c hw.2)
theorem WL.ca {o:Oper} {d:Nat} {Q:Value→Hp→List (List Nat)→Prop} {T:Value→Hp→List (List Nat)→World→Prop} (i:OpK g.P o.op l S Q T) (j:o.guard=none) (m:o.dst=some d) (p:Nat.blt d g.n=true)
    (h:∀ v b D,Q v b D→WL g k ops rest ((d,v) :: l) (T v b D)):WL g k ops (o :: rest) l S:=
  WL.call (α:=Value × Hp × List (List Nat)) (v:=fun x=>x.1) (S':=fun x w=>Q x.1 x.2.1 x.2.2∧T x.1 x.2.1 x.2.2 w) (fun n a w o' q c hw=>by
    obtain⟨f,args,h1,r⟩:=i n a w o' q c hw
    exact⟨f,args,h1,r.mono fun e w' ⟨v,b,D,s,t,u⟩=>⟨(v,b,D),s,t,u⟩⟩) j m p (fun x a w c hw=>h x.1 x.2.1 x.2.2 hw.1 a w c hw.2)
theorem WL.p {o:Oper} {d:Nat} {v:Value} (b:OpP g.P o.op l S v) (c:o.guard=none) (i:o.dst=some d) (j:Nat.blt d g.n=true)
    (h:WL g k ops rest ((d,v) :: l) S):WL g k ops (o :: rest) l S:=
  WL.call (α:=Unit) (v:=fun _=>v) (S':=fun _=>S) (fun n a w o' m p hw=>by
    obtain⟨f,args,h1,q⟩:=b n a w o' m p hw
    exact⟨f,args,h1,q.mono fun e w' ⟨r,s⟩=>⟨(),r,s⟩⟩) c i j (fun _=>h)
theorem WQ.p {o:Oper} {d:Nat} {v:Value} (b:OpP g.P o.op l S v) (c:o.guard=none) (i:o.dst=some d) (j:Nat.blt d g.n=true)
    (h:WQ g k ops rest ((d,v) :: l) S):WQ g k ops (o :: rest) l S:=
  WQ.call (fun n a w o' m p hw=>by
    obtain⟨f,args,h1,q⟩:=b n a w o' m p hw
    exact⟨f,args,h1,q.mono fun e w' ⟨r,s⟩=>⟨(),r,s⟩⟩) c i j h

theorem WT.conv {S':World→Prop} (b:∀ w,S w→S' w) (h:WT g k l S'):WT g k l S:=fun a w c hw=>h a w c (b w hw)
theorem WL.conv {S':World→Prop} (b:∀ w,S w→S' w) (h:WL g k ops rest l S'):WL g k ops rest l S:=fun a w c hw=>h a w c (b w hw)
def Zr (P:Program) (t:Nat) (z:Value):Prop:=(P.info? t).map (·.zero)=some (some z)

theorem wM {T:TypeId} {x:Operand} {v:Value} {C:Array Value} (c:opv l x=some v) (d:v.cells=C) :
    OpN P (.box T x) l (St w0 Φ O L) (fun b=>.pointer (some ⟨b,0,none⟩)) (fun b=>St w0 Φ ((b,.cells C T (0,0)) :: O) L):=fun n a w o e f hw=>by
  refine⟨w.heap.size,w.alloc (.cells C T),?_,hw.addO (Chg.of_none (mj _ _) (hn _) _) (hn _) (heap_alloc_new w _)⟩
  unfold execOp
  simp only[e,f.eval c]
  simp[Instr.box,newVar,newRow,d]

theorem ip {T:TypeId} {z:Value} {C:Array Value} (c:Zr P T z) (e:z.cells=C) :
    OpN P (.alloc T) l (St w0 Φ O L) (fun b=>.pointer (some ⟨b,0,none⟩)) (fun b=>St w0 Φ ((b,.cells C T (0,0)) :: O) L):=fun n a w o f i hw=>by
  refine⟨w.heap.size,w.alloc (.cells C T),?_,hw.addO (Chg.of_none (mj _ _) (hn _) _) (hn _) (heap_alloc_new w _)⟩
  unfold execOp
  simp only[f]
  unfold Zr at c
  cases d:P.info? T with
  | none=>simp[d] at c
  | some g=>
    have h:g.zero=some z:=by simpa[d] using c
    simp[Instr.alloc,zeroValue,typeInfo,d,h,newVar,newRow,e,Sem.run_bind]

def lG (C:Array Value) (o:Nat):List Value→Array Value
  | []=>C
  | v :: vs=>lG (C.setIfInBounds o v) (o+1) vs

def put (C:List Value) (o:Nat):List Value→List Value
  | []=>C
  | v :: vs=>put (C.set o v) (o+1) vs
theorem te:∀ (vs:List Value) (C:Array Value) (o:Nat),lG C o vs=(put C.toList o vs).toArray
  | [],C,o=>rfl
  | v :: vs,C,o=>by rw[lG,put,te vs];simp

theorem Bf (vs:List Value):∀ (C:Array Value) (o:Nat),(lG C o vs).size=C.size:=by
  induction vs with
  | nil=>intro C o;rfl
  | cons v vs a=>intro C o;simp[lG,a]

def One:List Value→Prop
  | []=>True
  | v :: vs=>v.oneCell'=true∧One vs

theorem One.all:∀ {vs:List Value},One vs→∀ v∈vs,v.oneCell'=true
  | [],_,v,h=>by cases h
  | u :: us,h,v,a=>by
    rcases List.mem_cons.1 a with rfl | a
    · exact h.1
    · exact One.all h.2 v a

theorem ub {P:Program} {b:Nat} {T:TypeId}:∀ (vs:List Value) (i o:Nat) (C:Array Value) (w:World),w.heap[b]?=some (.cells C T (0,0))→o+i+vs.length≤C.size→(∀ v∈vs,v.oneCell'=true) →
    ∃ w',(storeCells ⟨b,o,none⟩ vs i).run P w = .ok () w'∧w'.heap[b]?=some (.cells (lG C (o+i) vs) T (0,0))∧w.grownBy w' (some b)
  | [],i,o,C,w,a,hlen,h1=>⟨w,by simp[storeCells],a,rfl,rfl,rfl,hn _,fun _ _ _=>rfl⟩
  | v :: vs,i,o,C,w,a,hlen,h1=>by
    have f:w.cell? ⟨b,o+i,none⟩=some (C[o+i]'(by simp at hlen;omega)):=by
      simp only[World.cell?,a]
      simp[Array.getElem?_eq_getElem (show o+i < C.size by simp at hlen;omega)]
    have g:w.frozen? ⟨b,o+i,none⟩=false:=by simp[World.frozen?,a]
    have h:(store (Addr.add ⟨b,o,none⟩ i) v).run P w = .ok () (w.setCell ⟨b,o+i,none⟩ v):=by
      rw[Addr.add_mid,run_store P w _ v _ (h1 v NS)]
      simp[f,g]
    have j:=heap_setCell_same w b (o+i) C T v a
    obtain⟨w',l,m,c⟩:=ub (P:=P) vs (i+1) o (C.setIfInBounds (o+i) v) (w.setCell ⟨b,o+i,none⟩ v) j (by simp at hlen ⊢;omega) (fun u hu=>h1 u (by simp[hu]))
    refine⟨w',?_,?_,?_⟩
    · simp only[storeCells,Sem.run_bind,h,Result.andThen_ok,l]
    · rw[m];rfl
    · refine⟨c.os,c.tape,c.output,by have:=c.size;simpa using this,fun k hk d=>?_⟩
      rw[c.block k (by simpa using hk) d]
      exact heap_setCell_other w _ k v (fun e=>d (by simp[e]))

theorem qY {P:Program} {b o n:Nat} {t T:TypeId} {v:Value} {C:Array Value} (a:Sz P t n=true) (d:v.cells.size=n) (e:w.heap[b]?=some (.cells C T (0,0))) (hlen:o+n≤C.size) (h1:One v.cells.toList) :
    ∃ w',(storeVar t ⟨b,o,none⟩ v).run P w = .ok () w'∧w'.heap[b]?=some (.cells (lG C o v.cells.toList) T (0,0))∧w.grownBy w' (some b):=by
  unfold Sz at a
  cases c:P.info? t with
  | none=>simp[c] at a
  | some f=>
    have g:f.size=n:=by simpa[c] using a
    obtain⟨w',h,i,j⟩:=ub (P:=P) v.cells.toList 0 o C w e (by simp[d];omega) h1.all
    refine⟨w',?_,by simpa using i,j⟩
    simp[storeVar,sizeOf,typeInfo,c,g,d,h]

theorem xB {t n:TypeId} {x y:Operand} {i b off:Nat} {T:TypeId} {C:Array Value} {v:Value} {vs:List Value} (f:Sz P t n=true)
    (g:opv l x=some (.pointer (some ⟨b,off,none⟩))) (h:opv l y=some v) (c:O[i]?=some (b,.cells C T (0,0))) (j:v.cells.toList=vs) (hlen:vs.length=n) (k:Nat.ble (off+n) C.size=true) (h1:One vs) {C':List Value} (m:put C.toList off vs=C')
    {O':gY} (hO:O.set i (b,.cells C'.toArray T (0,0))=O'):OpS P (.store t x y) l (St w0 Φ O L) (St w0 Φ O' L):=fun n a w o p d hw=>by
  subst hO;subst m;rw[← te]
  subst j
  have q:w.heap[b]?=some (.cells C T (0,0)):=(hw.obj _ (List.mem_of_getElem? c)).1
  obtain⟨w',e,r,s⟩:=qY (P:=P) (o:=off) f (by simpa using hlen) q (by simpa using k) h1
  refine⟨w',?_,hw.setO c (Chg.of_some s (qJ _ e)) r⟩
  unfold execOp
  simp only[p,d.eval g,d.eval h]
  simp[Instr.storeAt,Instr.sureAddr,Sem.run_bind,e]

theorem rD {P:Program} {f:Nat} {args:Array Value} (a:Fun P f=true) (w:World):(callFunc f args).run P w = .ok (.enter f args) w:=by
  unfold Fun at a
  unfold callFunc
  split at a
  · rename_i fn b
    simp only[Bool.and_eq_true,Bool.not_eq_true',Option.isSome_iff_exists] at a
    obtain⟨⟨c,d⟩,hname⟩:=a
    simp only[Sem.run_bind,run_program,Result.andThen_ok,b,hname,d]
    rfl
  · cases a

def lw (v:Value) (w:World):Ending→World→Prop:=fun e w'=>e = .returned v∧Chg [] w w'
theorem fe {v:Value} {w0:aD Ψ0 H0 []} (h:St w0 Φ O L w):lw v w0.w (.returned v) w:=⟨rfl,h.bel⟩

theorem BQ {f:Nat} {xs:List Operand} {b:Array TypeId} {vs:List Value} {n:Nat} {a:Act} {o:Oper} (c:Fun P f=true) (d:pm l xs=some vs) (e:o.op = .call ⟨.value (.func f),xs.toArray,b⟩) (g:Eng.Fr n l a):(execOp a.eval o).run P w = .ok (.enter f vs.toArray) w:=by
  unfold execOp
  simp only[e,resolve]
  have:xs.toArray.map a.eval=vs.toArray:=by simp[uJ g d]
  simp only[this]
  simp[Act.eval,Deferred.ofValue,invoke,Sem.run_bind,rD c]
theorem Gj {f:Nat} {x:Operand} {xs:List Operand} {d:Array TypeId} {vs b:List Value} {n:Nat} {a:Act} {o:Oper} (e:Fun P f=true) (g:opv l x=some (.func (.func f) #[] b.toArray)) (h:pm l xs=some vs) (i:o.op = .call ⟨.value x,xs.toArray,d⟩) (c:Eng.Fr n l a) :
    (execOp a.eval o).run P w = .ok (.enter f (vs++b).toArray) w:=by
  unfold execOp
  simp only[i,resolve]
  have:xs.toArray.map a.eval=vs.toArray:=by simp[uJ c h]
  simp only[this,c.eval g]
  simp[Deferred.ofValue,invoke,Sem.run_bind,rD e]

theorem jk {f:Nat} {xs:List Operand} {b:Array TypeId} {v:Value} {vs:List Value} (c:Fun P f=true) (d:pm l xs=some vs)
    (h:∀ w,St w0 Φ O L w→Calls P f vs.toArray w (lw v w)):OpP P (.call ⟨.value (.func f),xs.toArray,b⟩) l (St w0 Φ O L) v:=fun n a w o g i hw=>
  ⟨f,_,BQ c d g i,(h w hw).mono fun e w' ⟨h1,j⟩=>⟨h1,hw.call j⟩⟩
theorem kK {f:Nat} {x:Operand} {xs:List Operand} {c:Array TypeId} {v:Value} {vs b:List Value} (d:Fun P f=true) (g:opv l x=some (.func (.func f) #[] b.toArray)) (i:pm l xs=some vs)
    (h:∀ w,St w0 Φ O L w→Calls P f (vs++b).toArray w (lw v w)):OpP P (.call ⟨.value x,xs.toArray,c⟩) l (St w0 Φ O L) v:=fun n a w o j k hw=>
  ⟨f,_,Gj d g i j k,(h w hw).mono fun e w' ⟨h1,m⟩=>⟨h1,hw.call m⟩⟩

def bc (Φ:Hp) (w:World) (B:List Nat) (Q:Hp→List (List Nat)→Value→Prop):Ending→World→Prop:=fun e w'=>
  ∃ v a Fs,e = .returned v∧Chg B w w'∧In a w'∧(∀ k,k < w.heap.size→k ∉ B→a k=Φ k)∧Fs.flatten.Nodup∧(∀ k∈Fs.flatten,(k∈B∨w.heap.size≤k)∧k < w'.heap.size)∧Q a Fs v

theorem aH {v:Value} {js:List Nat} {As R:List (List Nat)} {Q:Hp→List (List Nat)→Value→Prop} (h:St w0 Φ O L w) (hp:Eng.pick js L=some (As,R)) (b:Q Φ As v):bc H0 w0.w B0 Q (.returned v) w:=by
  have a:=h.ap hp
  have c:=h.pk hp
  refine⟨v,Φ,_,rfl,h.bel,h.fro,h.old,a.nd,fun k hk=>⟨?_,c.dat k (by rw[j1];exact gb.2 (.inl hk))⟩,b⟩
  rcases a.new k hk with h1 | h1
  · exact .inr h1
  · exact .inl h1

theorem IW {f:Nat} {vs:List Value} {n:Nat} {op:Op} {js:List Nat} {As R:List (List Nat)} {Q:Hp→List (List Nat)→Value→Prop} (g:∀ (n:Nat) (a:Act) (w:World) (o:Oper),o.op=op→Eng.Fr n l a→(execOp a.eval o).run P w = .ok (.enter f vs.toArray) w) (hp:Eng.pick js L=some (As,R))
    (h:∀ w,St w0 Φ O L w→Ap w0 O As R→(∀ k∈As.flatten,k < w.heap.size)→Calls P f vs.toArray w (bc Φ w As.flatten Q)) :
    OpK P op l (St w0 Φ O L) (fun v b Fs=>Ap w0 O As R∧FrH As.flatten Φ b∧Q b Fs v) (fun v b Fs=>St w0 b O (Fs++R)):=fun n a w o i j hw=>by
  have c:=hw.ap hp
  refine⟨f,_,g n a w o i j,(h w hw c (fun k hk=>(hw.pk hp).dat k (by rw[j1];exact gb.2 (.inl hk)))).mono fun e w' ⟨v,b,Fs,h1,m,p,d,q,r,s⟩=>⟨v,b,Fs,h1,⟨c,Bx hw.fro d,s⟩,?_⟩⟩
  exact hw.eff (L1:=Fs) hp m p d r q

theorem bH {f:Nat} {xs:List Operand} {c:Array TypeId} {vs:List Value} {js:List Nat} {As R:List (List Nat)} {Q:Hp→List (List Nat)→Value→Prop} (d:Fun P f=true) (e:pm l xs=some vs) (hp:Eng.pick js L=some (As,R))
    (h:∀ w,St w0 Φ O L w→Ap w0 O As R→(∀ k∈As.flatten,k < w.heap.size)→Calls P f vs.toArray w (bc Φ w As.flatten Q)) :
    OpK P (.call ⟨.value (.func f),xs.toArray,c⟩) l (St w0 Φ O L) (fun v b Fs=>Ap w0 O As R∧FrH As.flatten Φ b∧Q b Fs v) (fun v b Fs=>St w0 b O (Fs++R)):=
  IW (n:=0) (fun n a w o g i=>BQ d e g i) hp h
def mM (Φ:Hp) (v a:Value) (w':World):Hp:=fun k=>if k∈ob v∨k∈ob a then w'.heap[k]? else Φ k

theorem H3 (v:Value):(ob v).Nodup:=by
  unfold ob;cases v.ownBlock <;> simp
theorem rz {e sz n:Nat} {v:Value} {cells:List Value} (h:w.ownsRow 0 e sz v n cells):∀ k∈ob v,k < w.heap.size:=fun k hk=>(h.lt k (by simpa[ob] using hk)).2

theorem Gr {v b:Value} (a:In Φ w) (c:Chg (ob v) w w'):In (mM Φ v b w') w':=fun k o hk=>by
  unfold mM at hk;split at hk
  · exact hk
  · rename_i d
    rw[c.block k (a.lt hk) (fun hm=>d (.inl hm))];exact a k o hk
theorem qV {v a:Value} (c:∀ k∈ob a,k∈ob v∨w.heap.size≤k):∀ k,k < w.heap.size→k ∉ ob v→mM Φ v a w' k=Φ k:=fun k hk b=>by
  unfold mM;rw[if_neg]
  rintro (h | h)
  · exact b h
  · rcases c k h with h | h
    · exact b h
    · omega

theorem xN {α:Type} {R:Hp→List Nat→List Value→α→Prop} (d:cB R) {e sz:Nat} {v a:Value} {cells:List Value} {Fs:List (List Nat)} {xs:List α} (f:In Φ w) (j:Chg (ob v) w w') (g:∀ k∈ob a,k∈ob v∨w.heap.size≤k)
    (h:w'.ownsRow 0 e sz a xs.length cells) (i:RC R sz Φ Fs cells xs) (hk:Kw Φ Fs.flatten) (c:Dj Fs.flatten (ob v)):FrH (ob v) Φ (mM Φ v a w')∧OSl R e sz (mM Φ v a w') Fs.flatten a xs:=by
  have b:FrH (ob v) Φ (mM Φ v a w'):=Bx f (qV g)
  refine⟨b,b.kw c hk,cells,Fs,oZ.of_owns h (fun k hk=>by simp[mM,hk]),i.frame d b c,rfl⟩

theorem St.row {js:List Nat} {R:List (List Nat)} {v a:Value} (hw:St w0 Φ O L w) (hp:Eng.pick js L=some ([ob v],R)) (b:Chg (ob v) w w') (c:∀ k∈ob a,k∈ob v∨w.heap.size≤k) (d:∀ k∈ob a,k < w'.heap.size):St w0 (mM Φ v a w') O (ob a :: R) w':=by
  have h1:[ob v].flatten=ob v:=by simp
  refine hw.eff (L1:=[ob a]) hp (by rw[h1];exact b) (Gr hw.fro b) (by rw[h1];exact qV c) (fun k hk=>?_) (by simpa using H3 a)
  simp only[List.flatten_cons,List.flatten_nil,List.append_nil] at hk ⊢
  exact⟨c k hk,d k hk⟩

def By (P:Program) (t n:Nat):Bool:=(P.info? t).map (·.bytes) == some n
def mk {α:Type} (z:α) (n:Int):Option (List α):=if 0≤n∧n≤4294967296 then some (List.replicate n.toNat z) else none

theorem uP {z:Array Value} {sz m i:Nat} (b:z.size=sz) (e:0 < sz) (c:i < m):((madeCells z (m*sz)).toList.drop (i*sz)).take sz=z.toList:=by
  apply List.ext_getElem?
  intro j
  have hle:i*sz+sz≤m*sz:=by rw[← Nat.succ_mul];exact hL sz c
  rw[hQ]
  by_cases a:j < sz
  · rw[if_pos a,List.getElem?_drop]
    have h1:i*sz+j < (madeCells z (m*sz)).size:=by rw[size_madeCells];omega
    rw[Array.getElem?_toList,Array.getElem?_eq_getElem h1,Array.getElem?_toList,Array.getElem?_eq_getElem NR]
    simp only[madeCells,Array.getElem_map,Array.getElem_range]
    congr 1
    have d:(i*sz+j) % z.size=j:=by
      rw[b,Nat.mul_comm,Nat.mul_add_mod];exact Nat.mod_eq_of_lt a
    rw[d]
    exact getElem!_pos z j NR
  · rw[if_neg a,sX (by simp;omega)]

theorem cO:ob (.slice none 0 0)=[]:=rfl
theorem St.rowN {a:Value} (hw:St w0 Φ O L w) (b:Chg [] w w') (c:∀ k∈ob a,w.heap.size≤k) (d:∀ k∈ob a,k < w'.heap.size):St w0 (mM Φ (.slice none 0 0) a w') O (ob a :: L) w':=
  (hw.addNil).row (v:=.slice none 0 0) (js:=[0]) rfl b (fun k hk=>.inr (c k hk)) d

theorem Dm {α:Type} {R:Hp→List Nat→List Value→α→Prop} {t e sz by':Nat} {x y:Operand} {z:Value} {h:α} {n m:Int} {xs:List α}
    (f:Sl P t e sz=true) (B:Zr P e z) (C:By P e by'=true) (T:Nat.ble by' 65536=true) (U:Nat.blt 0 sz=true) (E:z.cells.size=sz) (F:∀ Φ,R Φ [] z.cells.toList h)
    (V:opv l x=some (.int .i64 n)) (W:opv l y=some (.int .i64 m)) (ab:n≤m) (hm:mk h n=some xs) (ad:m≤4294967296) :
    OpE P (.makeSlice t x y) l (St w0 Φ O L) (fun v q D=>FrH [] Φ q∧OSl R e sz q [] v xs) (fun v q D=>St w0 q O (ob v :: L)):=fun nn a w o X G hw=>by
  unfold mk at hm
  split at hm
  · rename_i Y
    obtain⟨Z,h1⟩:=Y
    simp only[Option.some.injEq] at hm
    subst hm
    have H:0 < sz:=by simpa using U
    obtain⟨c,rfl⟩:=O2 (show 0≤m by omega)
    obtain⟨b,rfl⟩:=O2 Z
    have I:b≤c:=by omega
    simp only[Int.toNat_natCast]
    have K:(w.alloc (.cells (madeCells z.cells (c*sz)) e)).ownsRow 0 e sz (.slice (some ⟨w.heap.size,0,none⟩) b c) b (madeCells z.cells (b*sz)).toList:=by
      refine⟨by simp[size_madeCells],.inr ⟨w.heap.size,c,_,rfl,Nat.zero_le _,heap_alloc_new w _,I,by unfold maxLen;omega,by rw[size_madeCells],?_⟩⟩
      apply List.ext_getElem?
      intro j
      have hle:b*sz≤c*sz:=hL sz I
      rw[hQ]
      by_cases M:j < b*sz
      · rw[if_pos M,Array.getElem?_toList,Array.getElem?_toList,Array.getElem?_eq_getElem (by rw[size_madeCells];omega),Array.getElem?_eq_getElem (by rw[size_madeCells];omega)]
        simp[madeCells]
      · rw[if_neg M,sX (by simp[size_madeCells];omega)]
    have s:RC R sz Φ (List.replicate b []) (madeCells z.cells (b*sz)).toList (List.replicate b h):=by
      refine⟨by simp[size_madeCells],NS,fun i x d=>?_⟩
      have g:i < b:=by have:=(gx.1 d).1;simpa using this
      rw[uP E H g]
      have u:x=h:=by
        rw[y1] at d
        simp[g] at d;exact d.symm
      have A:(List.replicate b ([]:List Nat)).getD i []=[]:=by
        simp[hS,y1,g]
      rw[u,A];exact F _
    have a1:(List.replicate b ([]:List Nat)).flatten=[]:=by simp
    have a6:Chg [] w (w.alloc (.cells (madeCells z.cells (c*sz)) e)):=Chg.of_none (mj _ _) (hn _) _
    have N:∀ k∈ob (.slice (some ⟨w.heap.size,0,none⟩) b c),w.heap.size≤k:=fun k hk=>by simp[ob,Value.ownBlock] at hk;omega
    have a7:=hw.rowN a6 N (rz K)
    have a8:FrH [] Φ (mM Φ (.slice none 0 0) (.slice (some ⟨w.heap.size,0,none⟩) b c) (w.alloc (.cells (madeCells z.cells (c*sz)) e))):=Bx hw.fro (qV (v:=.slice none 0 0) (fun k hk=>.inr (N k hk)))
    refine⟨_,_,[],_,?_,⟨a8,Kw.nil,_,List.replicate b [],oZ.of_owns (by simpa using K) (fun k hk=>by simp[mM,hk]),⟨s.len,s.flen,fun i x d=>?_⟩,a1.symm⟩,a7⟩
    · unfold Sl at f
      split at f
      · rename_i Q hu
        simp only[Bool.and_eq_true,beq_iff_eq] at f
        obtain⟨rfl,f⟩:=f
        cases p:P.info? Q with
        | none=>simp[p] at f
        | some r=>
          have h2:r.size=sz:=by simpa[p] using f
          have h3:r.zero=some z:=by unfold Zr at B;simpa[p] using B
          have h4:r.bytes=by':=by unfold By at C;simpa[p] using C
          have aa:by'≤65536:=by simpa using T
          have hr:=run_make (P:=P) w t Q r z hu p h3 .i64 .i64 b c NR NR (by
            rw[h4]
            have h5:by'*c≤65536*4294967296:=Nat.mul_le_mul aa NR
            have S:((by'*c:Nat):Int)≤281474976710656:=by omega
            rw[Int.natCast_mul] at S
            exact S) NR
          unfold execOp
          simp only[X,G.eval V,G.eval W]
          simp only[Sem.run_bind,hr,h2,Int.toNat_natCast]
          rfl
      · cases f
    · have ae:=s.el i x d
      have g:i < b:=by have:=(gx.1 d).1;simpa using this
      have u:x=h:=by
        rw[y1] at d
        simp[g] at d;exact d.symm
      have A:(List.replicate b ([]:List Nat)).getD i []=[]:=by
        simp[hS,y1,g]
      rw[uP E H g,u,A];exact F _
  · cases hm

def Ei (P:Program) (e:Nat) (z:Value) (sz by':Nat):Prop:=(P.info? e).map (fun i=>(i.zero,i.size,i.bytes))=some (some z,sz,by')

theorem Ei.info {P:Program} {e sz by':Nat} {z:Value} (h:Ei P e z sz by'):∃ i,P.info? e=some i∧i.zero=some z∧i.size=sz∧i.bytes=by':=by
  unfold Ei at h
  cases a:P.info? e with
  | none=>simp[a] at h
  | some i=>
    simp only[a,Option.map_some,Option.some.injEq,Prod.mk.injEq] at h
    exact⟨i,rfl,h.1,h.2.1,h.2.2⟩

def Src (w:World) (u:Value) (m sz:Nat) (news:List Value):Prop:=
  news.length=m*sz∧((∃ c,u = .slice none 0 c∧m=0)∨∃ a c,u = .slice (some a) m c∧∀ j x,news[j]?=some x→w.cell? (a.add j)=some x)

theorem uZ {P:Program} {w:World} (base:Nat) (t ty e:TypeId) (i:TypeInfo) (size c:Nat) (a:P.underlying t=some (.slice e)) (b:P.info? e=some i)
    (v:Value) (n:Nat) (xs:List Value) (d:w.ownsRow base e size v n xs) :
    (Builtin.append_ #[t,t] ty #[v,.slice none 0 c]).run P w = .ok v w:=by
  rcases d.2 with ⟨rfl,rfl⟩ | ⟨g,cap,cur,rfl,_,_,f,_⟩
  · simp[Builtin.append_,run_underlying a,sizeOf,typeInfo,b,Builtin.lenOf,Builtin.firstCells]
  · simp[Builtin.append_,run_underlying a,sizeOf,typeInfo,b,Builtin.lenOf,Builtin.firstCells,f,storeCells]

theorem xU {P:Program} {t ty e sz by' T m n:Nat} {z v u:Value} {cells news:List Value} (M:Sl P t e sz=true) (he:Ei P e z sz by') (N:T=e) (D:z.cells.size=sz) (E:0 < sz) (h1:∀ x∈news,x.oneCell'=true)
    (l:w.ownsRow 0 T sz v n cells) (y:Src w u m sz news) (O:by'≤32768) (Q:n+m≤4294967296) :
    ∃ d w',(Builtin.append_ #[t,t] ty #[v,u]).run P w = .ok d w'∧w'.ownsRow 0 T sz d (n+m) (cells++news)∧Chg v.ownBlock.toList w w'∧(∀ x∈d.ownBlock.toList,x∈v.ownBlock.toList∨w.heap.size≤x):=by
  obtain⟨i,p,F,A,G⟩:=he.info
  subst N
  have hu:=w7 M
  have H:n+m≤maxLen:=by unfold maxLen;omega
  have I:(n+m)*by'≤140737488355328:=by
    have:=Nat.mul_le_mul Q O
    omega
  obtain⟨q,y⟩:=y
  have K:∀ {b:Nat} {w':World} {d:Value} {L:Nat} {xs:List Value},w'.ownsRow b T sz d L xs→w'.ownsRow 0 T sz d L xs:=fun h=>by
    obtain⟨h1,B⟩:=h
    refine⟨h1,?_⟩
    rcases B with B | ⟨r,cap,cur,R,h4,S⟩
    · exact .inl B
    · exact .inr ⟨r,cap,cur,R,Nat.zero_le _,S⟩
  rcases y with ⟨c,rfl,rfl⟩ | ⟨a,c,rfl,C⟩
  · have U:news=[]:=qo (by simpa using q)
    subst U
    refine⟨v,w,uZ (P:=P) 0 t ty T i sz c hu p v n cells l,by simpa using l,Chg.refl _ _,fun x g=>.inl g⟩
  · rcases l.2 with ⟨rfl,rfl⟩ | ⟨r,cap,cur,rfl,a1,V,a6,a7,a8,W⟩
    · have X:cells=[]:=qo (by simpa using l.1)
      subst X
      obtain⟨d,w',f,k,o,_⟩:=run_append_own (P:=P) w w.heap.size t ty T i z sz by' hu p F A G D E (.slice none 0 0) 0 [] (World.ownsRow_nil w _ T sz) a m c news q C h1 H I (hn _)
      refine⟨d,w',f,K k,Chg.of_opt o (qJ _ f),fun x g=>.inr ?_⟩
      exact (k.lt x (by simpa using g)).1
    · by_cases Y:n+m≤cap
      · obtain⟨w',f,k,o⟩:=run_append_fits (P:=P) w 0 t ty T i sz hu p A r n cap cells l a m c news q C h1 Y
        exact⟨_,w',f,k,Chg.of_some o (qJ _ f),fun x g=>.inl (by simpa[Value.ownBlock] using g)⟩
      · have Z:cells.length=n*sz:=l.1
        obtain⟨d,w',f,k,o⟩:=run_append_arg_grows (P:=P) w t ty T i z sz by' hu p F A G D E ⟨r,0,none⟩ n cap cells Z (fun j x s=>by
          rw[Addr.add_mid]
          rw[← W,hQ] at s
          split at s
          · simp only[World.cell?,V,Nat.zero_add];simpa using s
          · cases s) a m c news q C NR H I
        refine⟨d,w',f,K k,Chg.of_none o (qJ _ f) _,fun x g=>.inr ?_⟩
        exact (k.lt x (by simpa using g)).1

def app {α:Type} (xs ys:List α):Option (List α):=if xs.length+ys.length≤4294967296 then some (xs++ys) else none

theorem HW {α:Type} {xs ys zs:List α} (h:app xs ys=some zs):xs.length+ys.length≤4294967296∧zs=xs++ys:=by
  unfold app at h
  split at h
  · simp only[Option.some.injEq] at h;exact⟨by assumption,h.symm⟩
  · cases h

theorem Lf {P:Program} {t:Nat} {s x:Operand} {a:Act} {o:Oper} {v u b:Value} (c:o.op = .call ⟨.builtin .append,#[s,x],#[t,t]⟩) (d:a.eval s=v) (e:a.eval x=u)
    (f:∀ ty,(Builtin.append_ #[t,t] ty #[v,u]).run P w = .ok b w'):(execOp a.eval o).run P w = .ok (.value b) w':=by
  unfold execOp
  simp only[c,resolve]
  simp[invoke,builtin,Sem.run_bind,d,e,f]

theorem zl {P:Program} {t ty ty':Nat} {v u:Value}:(Builtin.append_ #[t,t] ty #[v,u]).run P w=(Builtin.append_ #[t,t] ty' #[v,u]).run P w:=rfl

theorem Ed {α:Type} {R:Hp→List Nat→List Value→α→Prop} {sz:Nat} {F:List Nat} {u:Value} {ys:List α} (h:RSl R sz Φ F u ys) (h1:gt R) :
    ∃ f news,RC R sz Φ f news ys∧(∀ k∈f.flatten,k∈F)∧(∀ x∈news,x.oneCell'=true)∧∀ w,In Φ w→Src w u ys.length sz news:=by
  obtain⟨Fb,f,P,y,z,A⟩:=h.elems
  have key:∀ (n:Nat),n≤ys.length→∃ news:List Value,news.length=n*sz∧(∀ i x,i < n→ys[i]?=some x→R Φ (f.getD i []) ((news.drop (i*sz)).take sz) x)∧(∀ x∈news,x.oneCell'=true)∧(0 < n→rg Φ (sb u) (so u) news):=by
    intro n
    induction n with
    | zero=>intro _;exact⟨[],NS,fun i x g=>by omega,NS,fun h=>by omega⟩
    | succ n B=>
      intro Q
      obtain⟨news,b,l,m,o⟩:=B NR
      obtain⟨cs,D,E,s⟩:=A n ys[n] (gj NR)
      refine⟨news++cs,by simp[b,D,Nat.add_mul],fun i x g d=>?_,fun x d=>?_,fun _=>?_⟩
      · rcases Nat.lt_or_ge i n with hlt | hge
        · have hle:i*sz+sz≤news.length:=by rw[b,← Nat.succ_mul];exact hL sz hlt
          rw[List.drop_append_of_le_length NR,List.take_append_of_le_length (by simp;omega)]
          exact l i x hlt d
        · obtain rfl:i=n:=by omega
          have G:x=ys[i]:=by rw[gj NR] at d;simpa using d.symm
          rw[G,← b]
          rw[List.drop_left,List.take_of_length_le NR]
          exact s
      · rcases gb.1 d with d | d
        · exact m x d
        · exact h1 _ _ _ _ s x d
      · obtain⟨C,T,H,t,I⟩:=E
        refine⟨C,T,H,t,fun j v e=>?_⟩
        rcases Nat.lt_or_ge j news.length with hlt | hge
        · rw[List.getElem?_append_left hlt] at e
          have K:0 < n:=by
            rcases Nat.eq_zero_or_pos n with h0 | h0
            · subst h0;simp at b;subst b;simp at hlt
            · exact h0
          obtain⟨C',S,U,q,L⟩:=o K
          rw[t] at q
          simp only[Option.some.injEq,Obj.cells.injEq] at q
          obtain⟨rfl,_,_⟩:=q
          exact L j v e
        · rw[List.getElem?_append_right hge] at e
          have:=I (j - news.length) v e
          rw[← this];congr 1;omega
  obtain⟨news,b,l,m,o⟩:=key ys.length (hn _)
  refine⟨f,news,⟨b,y,fun i x g=>l i x (gx.1 g).1 g⟩,fun k hk=>by rw[z];exact gb.2 (.inr hk),m,fun w M=>⟨b,?_⟩⟩
  obtain⟨p,c,hp,_⟩:=h.form
  by_cases r:ys=[]
  · subst r
    cases p with
    | none=>exact .inl ⟨c,hp,rfl⟩
    | some a=>
      refine .inr ⟨a,c,hp,fun j x e=>?_⟩
      have:news=[]:=qo (by simpa using b)
      subst this;simp at e
  · obtain⟨N,O⟩:=h.addr r
    refine .inr ⟨_,N,O,fun j x e=>?_⟩
    rw[Addr.add_mid]
    have:=rg.rangeAt M (o (List.length_pos_iff.2 r)) j x e
    exact this

def wt {α:Type} (R:Hp→List Nat→List Value→α→Prop):Prop:=∀ Φ F cs x,R Φ F cs x→F=[]
theorem RI.flat {a:IntKind}:wt (RI a):=fun _ _ _ _ h=>h.2
theorem RB.flat:wt RB:=fun _ _ _ _ h=>h.2
theorem RS.flat:wt RS:=fun _ _ _ _ h=>h.2
theorem RC.flat {α:Type} {R:Hp→List Nat→List Value→α→Prop} (b:wt R) {sz:Nat} {Fs:List (List Nat)} {cells:List Value} {xs:List α} (h:RC R sz Φ Fs cells xs):Fs.flatten=[]:=by
  rw[List.flatten_eq_nil_iff]
  intro F c
  obtain⟨i,a,rfl⟩:=List.getElem_of_mem c
  have d:i < xs.length:=by rw[← h.flen];exact a
  have e:=b _ _ _ _ (h.el i xs[i] (gj d))
  simpa[hS,gj a] using e

section app
variable {α:Type} {R:Hp→List Nat→List Value→α→Prop} {t e sz by':Nat} {s x:Operand} {z v u:Value} {xs ys zs:List α} {D F:List Nat} {js:List Nat} {Rr:List (List Nat)}

theorem DF (k:cB R) (m:Sl P t e sz=true) (he:Ei P e z sz by') (p:z.cells.size=sz) (q:Nat.blt 0 sz=true) (r:Nat.ble by' 32768=true)
    (y:opv l s=some v) (A:opv l x=some u) (hp:Eng.pick js L=some ([ob v],Rr)) {cells news:List Value} {Fs b:List (List Nat)}
    (B:oZ Φ e sz v xs.length cells) (C:RC R sz Φ Fs cells xs) (hk:Kw Φ Fs.flatten) (D:RC R sz Φ b news ys) (E:Kw Φ b.flatten) (h1:∀ x∈news,x.oneCell'=true) (F:∀ w,In Φ w→Src w u ys.length sz news)
    (G:∀ w,St w0 Φ O L w→Dj (Fs++b).flatten (ob v)) (H:app xs ys=some zs) :
    OpE P (.call ⟨.builtin .append,#[s,x],#[t,t]⟩) l (St w0 Φ O L) (fun c d f=>(Ap w0 O [ob v] Rr∧FrH [ob v].flatten Φ d)∧f=(Fs++b).flatten∧OSl R e sz d f c zs) (fun c d f=>St w0 d O (ob c :: Rr)):=fun n a w o I g hw=>by
  obtain⟨K,rfl⟩:=HW H
  obtain⟨c,w',M,h,i,j⟩:=xU (P:=P) (ty:=0) m he rfl p (by simpa using q) h1 (B.owns hw.fro) (F w hw.fro) (by simpa using r) K
  have hlen:(xs++ys).length=xs.length+ys.length:=by simp
  have N:Kw Φ (Fs++b).flatten:=by rw[j1];exact hk.app E
  obtain⟨g1,g2⟩:=xN k hw.fro i j (by rw[hlen];exact h) (C.append D) N (G w hw)
  have Q:[ob v].flatten=ob v:=by simp
  exact⟨c,_,_,w',Lf I (g.eval y) (g.eval A) (fun ty=>by rw[zl (ty':=0)];exact M),⟨⟨hw.ap hp,by rw[Q];exact g1⟩,rfl,g2⟩,hw.row hp i j (rz h)⟩

theorem dM (j:cB R) (k:gt R) (d:wt R) (m:Sl P t e sz=true) (he:Ei P e z sz by') (p:z.cells.size=sz) (q:Nat.blt 0 sz=true) (r:Nat.ble by' 32768=true)
    (y:opv l s=some v) (A:opv l x=some u) (hp:Eng.pick js L=some ([ob v],Rr)) (h:OSl R e sz Φ D v xs) (B:RSl R sz Φ F u ys) (C:app xs ys=some zs) :
    OpE P (.call ⟨.builtin .append,#[s,x],#[t,t]⟩) l (St w0 Φ O L) (fun c b f=>(Ap w0 O [ob v] Rr∧FrH [ob v].flatten Φ b)∧OSl R e sz b [] c zs) (fun c b f=>St w0 b O (ob c :: Rr)):=by
  obtain⟨cells,Fs,g1,g2,rfl⟩:=h.ex
  obtain⟨E,news,g,S,G,H⟩:=Ed B k
  have i:(Fs++E).flatten=[]:=by rw[j1,g2.flat d,g.flat d];rfl
  intro n a w o I K hw
  obtain⟨c,b,f,w',q1,⟨M,N,Q⟩,q5⟩:=DF (P:=P) j m he p q r y A hp g1 g2 h.kn g (by rw[g.flat d];exact Kw.nil) G H (fun w hw=>by rw[i];exact Dj.nil _) C n a w o I K hw
  exact⟨c,b,f,w',q1,⟨M,by rw[← i,← N];exact Q⟩,q5⟩

theorem dS (p:cB R) (q:gt R) (r:Sl P t e sz=true) (he:Ei P e z sz by') (y:z.cells.size=sz) (g:Nat.blt 0 sz=true) (A:Nat.ble by' 32768=true)
    (B:opv l s=some v) (C:opv l x=some u) (hp:Eng.pick js L=some ([ob v],Rr)) (h:OSl R e sz Φ D v xs) (j:OSl R e sz Φ F u ys) (E:Ap w0 O [ob v] Rr→Dj D [ob v].flatten) (G:Ap w0 O [ob v] Rr→Dj F [ob v].flatten) (H:app xs ys=some zs) :
    OpE P (.call ⟨.builtin .append,#[s,x],#[t,t]⟩) l (St w0 Φ O L) (fun c b f=>(Ap w0 O [ob v] Rr∧FrH [ob v].flatten Φ b)∧OSl R e sz b (D++F) c zs) (fun c b f=>St w0 b O (ob c :: Rr)):=by
  obtain⟨cells,Fs,g1,g2,rfl⟩:=h.ex
  obtain⟨news,Y,k,m,rfl⟩:=j.ex
  have I:∀ w,In Φ w→Src w u ys.length sz news:=fun w K=>⟨k.1,by
    rcases (k.owns K).2 with ⟨h1,M⟩ | ⟨N,cap,cur,h1,_,Q,_,_,_,S⟩
    · exact .inl ⟨0,h1,M⟩
    · refine .inr ⟨⟨N,0,none⟩,cap,h1,fun i x d=>?_⟩
      rw[Addr.add_mid]
      rw[← S,hQ] at d
      split at d
      · simp only[World.cell?,Q,Nat.zero_add];simpa using d
      · cases d⟩
  intro n a w o T U hw
  obtain⟨c,b,f,w',q1,⟨V,W,X⟩,q5⟩:=DF (P:=P) p r he y g A B C hp g1 g2 h.kn m j.kn (RC.one q (by simpa using g) m) I (fun w hw=>by rw[j1];have:=(E (hw.ap hp)).app (G (hw.ap hp));simpa using this) H n a w o T U hw
  exact⟨c,b,f,w',q1,⟨V,by rw[← j1,← W];exact X⟩,q5⟩

theorem LU (j:cB R) (V:dv R) (m:gt R) (p:Sl P t e sz=true) (he:Ei P e z sz by') (q:z.cells.size=sz) (r:Nat.blt 0 sz=true) (y:Nat.ble by' 32768=true)
    (A:opv l s=some v) (B:opv l x=some u) (hp:Eng.pick js L=some ([ob v],Rr)) (h:OSl R e sz Φ D v xs) (f:RSl R sz Φ F u ys) (C:Ap w0 O [ob v] Rr→Dj D [ob v].flatten) (E:Ap w0 O [ob v] Rr→Dj F [ob v].flatten) (G:app xs ys=some zs) :
    OpE P (.call ⟨.builtin .append,#[s,x],#[t,t]⟩) l (St w0 Φ O L) (fun c b d=>(Ap w0 O [ob v] Rr∧FrH [ob v].flatten Φ b)∧(∀ k∈d,k∈D++F)∧OSl R e sz b d c zs) (fun c b d=>St w0 b O (ob c :: Rr)):=by
  obtain⟨cells,Fs,g1,g2,rfl⟩:=h.ex
  obtain⟨H,news,I,g,K,M⟩:=Ed f m
  have i:∀ k∈(Fs++H).flatten,k∈Fs.flatten++F:=fun k hk=>by
    rw[j1] at hk
    rcases gb.1 hk with hk | hk
    · exact gb.2 (.inl hk)
    · exact gb.2 (.inr (g k hk))
  intro n a w o N Q hw
  obtain⟨c,b,d,w',q1,⟨S,T,U⟩,q5⟩:=DF (P:=P) j p he q r y A B hp g1 g2 h.kn I (f.kn.sub g) K M (fun w hw=>by have:=((C (hw.ap hp)).app (E (hw.ap hp))).sub i;simpa using this) G n a w o N Q hw
  exact⟨c,b,d,w',q1,⟨S,fun k hk=>i k (by rw[← T];exact hk),U⟩,q5⟩
end app

end Go.Proofs.YtedmfnmbjglmbaaGreat.Eng
