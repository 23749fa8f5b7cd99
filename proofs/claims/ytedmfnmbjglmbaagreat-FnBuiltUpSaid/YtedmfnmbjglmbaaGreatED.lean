/-
  The engine, part D: operations that change the world.
  Nothing here names a program.
-/
import Derived.Test.YtedmfnmbjglmbaaGreatEC
import Derived.ArgAppend
import Derived.Laws.CopyRow
namespace Go.Proofs.YtedmfnmbjglmbaaGreat.Eng
open Go.RowKit (Below wrap64)
set_option linter.unusedVariables false
set_option linter.unusedSimpArgs false

variable {g:G} {k:List Item} {ops:Array Oper} {rest:List Oper} {l:Env} {Ψ0 H0:Hp} {B0:List Nat} {w0:av Ψ0 H0 B0} {Φ:Hp} {O:fT} {L:List (List Nat)} {w w':World} {S:World→Prop} {P:Program}

def OpN (P:Program) (op:Op) (l:Env) (S:World→Prop) (v:Nat→Value) (T:Nat→World→Prop):Prop:=
  ∀ (n:Nat) (a:Act) (w:World) (o:Oper),o.op=op→Eng.Fr n l a→S w→∃ b w',(execOp a.eval o).run P w = .ok (.value (v b)) w'∧T b w'
def OpE (P:Program) (op:Op) (l:Env) (S:World→Prop) (Q:Value→Hp→List Nat→Prop) (T:Value→Hp→List Nat→World→Prop):Prop:=
  ∀ (n:Nat) (a:Act) (w:World) (o:Oper),o.op=op→Eng.Fr n l a→S w→∃ v Φ' D w',(execOp a.eval o).run P w = .ok (.value v) w'∧Q v Φ' D∧T v Φ' D w'
def OpS (P:Program) (op:Op) (l:Env) (S:World→Prop) (T:World→Prop):Prop:=
  ∀ (n:Nat) (a:Act) (w:World) (o:Oper),o.op=op→Eng.Fr n l a→S w→∃ w',(execOp a.eval o).run P w = .ok .skip w'∧T w'
def OpU (P:Program) (op:Op) (l:Env) (S:World→Prop) (Q:Hp→List Nat→Prop) (T:Hp→List Nat→World→Prop):Prop:=
  ∀ (n:Nat) (a:Act) (w:World) (o:Oper),o.op=op→Eng.Fr n l a→S w→∃ Φ' D w',(execOp a.eval o).run P w = .ok .skip w'∧Q Φ' D∧T Φ' D w'
def OpK (P:Program) (op:Op) (l:Env) (S:World→Prop) (Q:Value→Hp→List (List Nat)→Prop) (T:Value→Hp→List (List Nat)→World→Prop):Prop:=
  ∀ (n:Nat) (a:Act) (w:World) (o:Oper),o.op=op→Eng.Fr n l a→S w→∃ f args,(execOp a.eval o).run P w = .ok (.enter f args) w∧Calls P f args w fun e w'=>∃ v Φ' D,e = .returned v∧Q v Φ' D∧T v Φ' D w'
def OpP (P:Program) (op:Op) (l:Env) (S:World→Prop) (v:Value):Prop:=
  ∀ (n:Nat) (a:Act) (w:World) (o:Oper),o.op=op→Eng.Fr n l a→S w→∃ f args,(execOp a.eval o).run P w = .ok (.enter f args) w∧Calls P f args w fun e w'=>e = .returned v∧S w'

theorem WL.n {o:Oper} {d:Nat} {v:Nat→Value} {T:Nat→World→Prop} (hop:OpN g.P o.op l S v T) (hg:o.guard=none) (hd:o.dst=some d) (hn:Nat.blt d g.n=true)
    (h:∀ b,WL g k ops rest ((d,v b) :: l) (T b)):WL g k ops (o :: rest) l S:=
  WL.eff (fun a w hf hw=>hop g.n a w o rfl hf hw) hg hd hn h
theorem WL.e {o:Oper} {d:Nat} {Q:Value→Hp→List Nat→Prop} {T:Value→Hp→List Nat→World→Prop} (hop:OpE g.P o.op l S Q T) (hg:o.guard=none) (hd:o.dst=some d) (hn:Nat.blt d g.n=true)
    (h:∀ v Φ' D,Q v Φ' D→WL g k ops rest ((d,v) :: l) (T v Φ' D)):WL g k ops (o :: rest) l S:=
  WL.eff (α:=Value × Hp × List Nat) (v:=fun x=>x.1) (S':=fun x w=>Q x.1 x.2.1 x.2.2∧T x.1 x.2.1 x.2.2 w) (fun a w hf hw=>by
    obtain ⟨v,Φ',D,w',h1,h2,h3⟩:=hop g.n a w o rfl hf hw
    exact ⟨(v,Φ',D),w',h1,h2,h3⟩) hg hd hn (fun x a w hf hw=>h x.1 x.2.1 x.2.2 hw.1 a w hf hw.2)
theorem WL.s {o:Oper} {T:World→Prop} (hop:OpS g.P o.op l S T) (hg:o.guard=none) (hd:o.dst=none) (h:WL g k ops rest l T):WL g k ops (o :: rest) l S:=
  WL.effU (α:=Unit) (S':=fun _=>T) (fun a w hf hw=>by
    obtain ⟨w',h1,h2⟩:=hop g.n a w o rfl hf hw
    exact ⟨(),w',h1,h2⟩) hg hd (fun _=>h)
theorem WL.u {o:Oper} {Q:Hp→List Nat→Prop} {T:Hp→List Nat→World→Prop} (hop:OpU g.P o.op l S Q T) (hg:o.guard=none) (hd:o.dst=none) (h:∀ Φ' D,Q Φ' D→WL g k ops rest l (T Φ' D)):WL g k ops (o :: rest) l S:=
  WL.effU (α:=Hp × List Nat) (S':=fun x w=>Q x.1 x.2∧T x.1 x.2 w) (fun a w hf hw=>by
    obtain ⟨Φ',D,w',h1,h2,h3⟩:=hop g.n a w o rfl hf hw
    exact ⟨(Φ',D),w',h1,h2,h3⟩) hg hd (fun x a w hf hw=>h x.1 x.2 hw.1 a w hf hw.2)
theorem WL.ca {o:Oper} {d:Nat} {Q:Value→Hp→List (List Nat)→Prop} {T:Value→Hp→List (List Nat)→World→Prop} (hop:OpK g.P o.op l S Q T) (hg:o.guard=none) (hd:o.dst=some d) (hn:Nat.blt d g.n=true)
    (h:∀ v Φ' D,Q v Φ' D→WL g k ops rest ((d,v) :: l) (T v Φ' D)):WL g k ops (o :: rest) l S:=
  WL.call (α:=Value × Hp × List (List Nat)) (v:=fun x=>x.1) (S':=fun x w=>Q x.1 x.2.1 x.2.2∧T x.1 x.2.1 x.2.2 w) (fun n a w o' ho hf hw=>by
    obtain ⟨f,args,h1,h2⟩:=hop n a w o' ho hf hw
    exact ⟨f,args,h1,h2.mono fun e w' ⟨v,Φ',D,h3,h4,h5⟩=>⟨(v,Φ',D),h3,h4,h5⟩⟩) hg hd hn (fun x a w hf hw=>h x.1 x.2.1 x.2.2 hw.1 a w hf hw.2)
theorem WL.p {o:Oper} {d:Nat} {v:Value} (hop:OpP g.P o.op l S v) (hg:o.guard=none) (hd:o.dst=some d) (hn:Nat.blt d g.n=true)
    (h:WL g k ops rest ((d,v) :: l) S):WL g k ops (o :: rest) l S:=
  WL.call (α:=Unit) (v:=fun _=>v) (S':=fun _=>S) (fun n a w o' ho hf hw=>by
    obtain ⟨f,args,h1,h2⟩:=hop n a w o' ho hf hw
    exact ⟨f,args,h1,h2.mono fun e w' ⟨h3,h4⟩=>⟨(),h3,h4⟩⟩) hg hd hn (fun _=>h)
theorem WQ.p {o:Oper} {d:Nat} {v:Value} (hop:OpP g.P o.op l S v) (hg:o.guard=none) (hd:o.dst=some d) (hn:Nat.blt d g.n=true)
    (h:WQ g k ops rest ((d,v) :: l) S):WQ g k ops (o :: rest) l S:=
  WQ.call (fun n a w o' ho hf hw=>by
    obtain ⟨f,args,h1,h2⟩:=hop n a w o' ho hf hw
    exact ⟨f,args,h1,h2.mono fun e w' ⟨h3,h4⟩=>⟨(),h3,h4⟩⟩) hg hd hn h

theorem WT.conv {S':World→Prop} (hS:∀ w,S w→S' w) (h:WT g k l S'):WT g k l S:=fun a w hf hw=>h a w hf (hS w hw)
theorem WL.conv {S':World→Prop} (hS:∀ w,S w→S' w) (h:WL g k ops rest l S'):WL g k ops rest l S:=fun a w hf hw=>h a w hf (hS w hw)
def Zr (P:Program) (t:Nat) (z:Value):Prop:=(P.info? t).map (·.zero)=some (some z)

theorem uY {T:TypeId} {x:Operand} {v:Value} {C:Array Value} (hx:opv l x=some v) (hC:v.cells=C) :
    OpN P (.box T x) l (St w0 Φ O L) (fun b=>.pointer (some ⟨b,0,none⟩)) (fun b=>St w0 Φ ((b,.cells C T (0,0)) :: O) L):=fun n a w o ho hf hw=>by
  refine ⟨w.heap.size,w.alloc (.cells C T),?_,hw.addO (Chg.of_none (l5 _ _) (Nat.le_refl _) _) (Nat.le_refl _) (heap_alloc_new w _)⟩
  unfold execOp
  simp only [ho,hf.eval hx]
  simp [Instr.box,newVar,newRow,hC]

theorem mY {T:TypeId} {z:Value} {C:Array Value} (hz:Zr P T z) (hC:z.cells=C) :
    OpN P (.alloc T) l (St w0 Φ O L) (fun b=>.pointer (some ⟨b,0,none⟩)) (fun b=>St w0 Φ ((b,.cells C T (0,0)) :: O) L):=fun n a w o ho hf hw=>by
  refine ⟨w.heap.size,w.alloc (.cells C T),?_,hw.addO (Chg.of_none (l5 _ _) (Nat.le_refl _) _) (Nat.le_refl _) (heap_alloc_new w _)⟩
  unfold execOp
  simp only [ho]
  unfold Zr at hz
  cases hti:P.info? T with
  | none=>simp [hti] at hz
  | some ti=>
    have hzz:ti.zero=some z:=by simpa [hti] using hz
    simp [Instr.alloc,zeroValue,typeInfo,hti,hzz,newVar,newRow,hC,Sem.run_bind]

def jY (C:Array Value) (o:Nat):List Value→Array Value
  | []=>C
  | v :: vs=>jY (C.setIfInBounds o v) (o+1) vs

def put (C:List Value) (o:Nat):List Value→List Value
  | []=>C
  | v :: vs=>put (C.set o v) (o+1) vs
theorem rC:∀ (vs:List Value) (C:Array Value) (o:Nat),jY C o vs=(put C.toList o vs).toArray
  | [],C,o=>rfl
  | v :: vs,C,o=>by rw [jY,put,rC vs]; simp

theorem zI (vs:List Value):∀ (C:Array Value) (o:Nat),(jY C o vs).size=C.size:=by
  induction vs with
  | nil=>intro C o; rfl
  | cons v vs ih=>intro C o; simp [jY,ih]

def One:List Value→Prop
  | []=>True
  | v :: vs=>v.oneCell'=true∧One vs

theorem One.all:∀ {vs:List Value},One vs→∀ v∈vs,v.oneCell'=true
  | [],_,v,h=>by cases h
  | u :: us,h,v,hv=>by
    rcases List.mem_cons.1 hv with rfl | hv
    · exact h.1
    · exact One.all h.2 v hv

theorem sG {P:Program} {b:Nat} {T:TypeId}:∀ (vs:List Value) (i o:Nat) (C:Array Value) (w:World),w.heap[b]?=some (.cells C T (0,0))→o+i+vs.length≤C.size→(∀ v∈vs,v.oneCell'=true) →
    ∃ w',(storeCells ⟨b,o,none⟩ vs i).run P w = .ok () w'∧w'.heap[b]?=some (.cells (jY C (o+i) vs) T (0,0))∧w.grownBy w' (some b)
  | [],i,o,C,w,hb,hlen,h1=>⟨w,by simp [storeCells],hb,rfl,rfl,rfl,Nat.le_refl _,fun _ _ _=>rfl⟩
  | v :: vs,i,o,C,w,hb,hlen,h1=>by
    have hcell:w.cell? ⟨b,o+i,none⟩=some (C[o+i]'(by simp at hlen; omega)):=by
      simp only [World.cell?,hb]
      simp [Array.getElem?_eq_getElem (show o+i < C.size by simp at hlen; omega)]
    have hfz:w.frozen? ⟨b,o+i,none⟩=false:=by simp [World.frozen?,hb]
    have hst:(store (Addr.add ⟨b,o,none⟩ i) v).run P w = .ok () (w.setCell ⟨b,o+i,none⟩ v):=by
      rw [Addr.add_mid,run_store P w _ v _ (h1 v (by simp))]
      simp [hcell,hfz]
    have hb':=heap_setCell_same w b (o+i) C T v hb
    obtain ⟨w',h2,h3,h4⟩:=sG (P:=P) vs (i+1) o (C.setIfInBounds (o+i) v) (w.setCell ⟨b,o+i,none⟩ v) hb' (by simp at hlen ⊢; omega) (fun u hu=>h1 u (by simp [hu]))
    refine ⟨w',?_,?_,?_⟩
    · simp only [storeCells,Sem.run_bind,hst,Result.andThen_ok,h2]
    · rw [h3]; rfl
    · refine ⟨h4.os,h4.tape,h4.output,by have:=h4.size; simpa using this,fun k hk hkb=>?_⟩
      rw [h4.block k (by simpa using hk) hkb]
      exact heap_setCell_other w _ k v (fun e=>hkb (by simp [e]))

theorem pg {P:Program} {b o n:Nat} {t T:TypeId} {v:Value} {C:Array Value} (hz:Sz P t n=true) (hn:v.cells.size=n) (hb:w.heap[b]?=some (.cells C T (0,0))) (hlen:o+n≤C.size) (h1:One v.cells.toList) :
    ∃ w',(storeVar t ⟨b,o,none⟩ v).run P w = .ok () w'∧w'.heap[b]?=some (.cells (jY C o v.cells.toList) T (0,0))∧w.grownBy w' (some b):=by
  unfold Sz at hz
  cases hti:P.info? t with
  | none=>simp [hti] at hz
  | some ti=>
    have hs:ti.size=n:=by simpa [hti] using hz
    obtain ⟨w',h2,h3,h4⟩:=sG (P:=P) v.cells.toList 0 o C w hb (by simp [hn]; omega) h1.all
    refine ⟨w',?_,by simpa using h3,h4⟩
    simp [storeVar,sizeOf,typeInfo,hti,hs,hn,h2]

theorem vD {t n:TypeId} {x y:Operand} {i b off:Nat} {T:TypeId} {C:Array Value} {v:Value} {vs:List Value} (hz:Sz P t n=true)
    (hx:opv l x=some (.pointer (some ⟨b,off,none⟩))) (hy:opv l y=some v) (hi:O[i]?=some (b,.cells C T (0,0))) (hvs:v.cells.toList=vs) (hlen:vs.length=n) (hoff:Nat.ble (off+n) C.size=true) (h1:One vs) {C':List Value} (hC':put C.toList off vs=C')
    {O':fT} (hO:O.set i (b,.cells C'.toArray T (0,0))=O'):OpS P (.store t x y) l (St w0 Φ O L) (St w0 Φ O' L):=fun n a w o ho hf hw=>by
  subst hO; subst hC'; rw [← rC]
  subst hvs
  have hb:w.heap[b]?=some (.cells C T (0,0)):=(hw.obj _ (List.mem_of_getElem? hi)).1
  obtain ⟨w',h2,h3,h4⟩:=pg (P:=P) (o:=off) hz (by simpa using hlen) hb (by simpa using hoff) h1
  refine ⟨w',?_,hw.setO hi (Chg.of_some h4 (pr _ h2)) h3⟩
  unfold execOp
  simp only [ho,hf.eval hx,hf.eval hy]
  simp [Instr.storeAt,Instr.sureAddr,Sem.run_bind,h2]

theorem qf {P:Program} {f:Nat} {args:Array Value} (hF:Fun P f=true) (w:World):(callFunc f args).run P w = .ok (.enter f args) w:=by
  unfold Fun at hF
  unfold callFunc
  split at hF
  · rename_i fn hfn
    simp only [Bool.and_eq_true,Bool.not_eq_true',Option.isSome_iff_exists] at hF
    obtain ⟨⟨c,hc⟩,hname⟩:=hF
    simp only [Sem.run_bind,run_program,Result.andThen_ok,hfn,hname,hc]
    rfl
  · cases hF

def lh (v:Value) (w:World):Ending→World→Prop:=fun e w'=>e = .returned v∧Chg [] w w'
theorem gg {v:Value} {w0:av Ψ0 H0 []} (h:St w0 Φ O L w):lh v w0.w (.returned v) w:=⟨rfl,h.bel⟩

theorem Aj {f:Nat} {xs:List Operand} {ts:Array TypeId} {vs:List Value} {n:Nat} {a:Act} {o:Oper} (hF:Fun P f=true) (ha:nM l xs=some vs) (ho:o.op = .call ⟨.value (.func f),xs.toArray,ts⟩) (hf:Eng.Fr n l a):(execOp a.eval o).run P w = .ok (.enter f vs.toArray) w:=by
  unfold execOp
  simp only [ho,resolve]
  have:xs.toArray.map a.eval=vs.toArray:=by simp [th hf ha]
  simp only [this]
  simp [Act.eval,Deferred.ofValue,invoke,Sem.run_bind,qf hF]
theorem DZ {f:Nat} {x:Operand} {xs:List Operand} {ts:Array TypeId} {vs fr:List Value} {n:Nat} {a:Act} {o:Oper} (hF:Fun P f=true) (hx:opv l x=some (.func (.func f) #[] fr.toArray)) (ha:nM l xs=some vs) (ho:o.op = .call ⟨.value x,xs.toArray,ts⟩) (hf:Eng.Fr n l a) :
    (execOp a.eval o).run P w = .ok (.enter f (vs++fr).toArray) w:=by
  unfold execOp
  simp only [ho,resolve]
  have:xs.toArray.map a.eval=vs.toArray:=by simp [th hf ha]
  simp only [this,hf.eval hx]
  simp [Deferred.ofValue,invoke,Sem.run_bind,qf hF]

theorem fx {f:Nat} {xs:List Operand} {ts:Array TypeId} {v:Value} {vs:List Value} (hF:Fun P f=true) (ha:nM l xs=some vs)
    (h:∀ w,St w0 Φ O L w→Calls P f vs.toArray w (lh v w)):OpP P (.call ⟨.value (.func f),xs.toArray,ts⟩) l (St w0 Φ O L) v:=fun n a w o ho hf hw=>
  ⟨f,_,Aj hF ha ho hf,(h w hw).mono fun e w' ⟨h1,h2⟩=>⟨h1,hw.call h2⟩⟩
theorem m6 {f:Nat} {x:Operand} {xs:List Operand} {ts:Array TypeId} {v:Value} {vs fr:List Value} (hF:Fun P f=true) (hx:opv l x=some (.func (.func f) #[] fr.toArray)) (ha:nM l xs=some vs)
    (h:∀ w,St w0 Φ O L w→Calls P f (vs++fr).toArray w (lh v w)):OpP P (.call ⟨.value x,xs.toArray,ts⟩) l (St w0 Φ O L) v:=fun n a w o ho hf hw=>
  ⟨f,_,DZ hF hx ha ho hf,(h w hw).mono fun e w' ⟨h1,h2⟩=>⟨h1,hw.call h2⟩⟩

def be (Φ:Hp) (w:World) (B:List Nat) (Q:Hp→List (List Nat)→Value→Prop):Ending→World→Prop:=fun e w'=>
  ∃ v Φ' Fs,e = .returned v∧Chg B w w'∧In Φ' w'∧(∀ k,k < w.heap.size→k ∉ B→Φ' k=Φ k)∧Fs.flatten.Nodup∧(∀ k∈Fs.flatten,(k∈B∨w.heap.size≤k)∧k < w'.heap.size)∧Q Φ' Fs v

theorem aI {v:Value} {js:List Nat} {As R:List (List Nat)} {Q:Hp→List (List Nat)→Value→Prop} (h:St w0 Φ O L w) (hp:Eng.pick js L=some (As,R)) (hQ:Q Φ As v):be H0 w0.w B0 Q (.returned v) w:=by
  have ha:=h.ap hp
  have h':=h.pk hp
  refine ⟨v,Φ,_,rfl,h.bel,h.fro,h.old,ha.nd,fun k hk=>⟨?_,h'.dat k (by rw [List.flatten_append]; exact List.mem_append.2 (.inl hk))⟩,hQ⟩
  rcases ha.new k hk with h1 | h1
  · exact .inr h1
  · exact .inl h1

theorem GO {f:Nat} {vs:List Value} {n:Nat} {op:Op} {js:List Nat} {As R:List (List Nat)} {Q:Hp→List (List Nat)→Value→Prop} (hrun:∀ (n:Nat) (a:Act) (w:World) (o:Oper),o.op=op→Eng.Fr n l a→(execOp a.eval o).run P w = .ok (.enter f vs.toArray) w) (hp:Eng.pick js L=some (As,R))
    (h:∀ w,St w0 Φ O L w→Ap w0 O As R→(∀ k∈As.flatten,k < w.heap.size)→Calls P f vs.toArray w (be Φ w As.flatten Q)) :
    OpK P op l (St w0 Φ O L) (fun v Φ' Fs=>Ap w0 O As R∧FrH As.flatten Φ Φ'∧Q Φ' Fs v) (fun v Φ' Fs=>St w0 Φ' O (Fs++R)):=fun n a w o ho hf hw=>by
  have hap:=hw.ap hp
  refine ⟨f,_,hrun n a w o ho hf,(h w hw hap (fun k hk=>(hw.pk hp).dat k (by rw [List.flatten_append]; exact List.mem_append.2 (.inl hk)))).mono fun e w' ⟨v,Φ',Fs,h1,h2,h3,h4,h5,h6,h7⟩=>⟨v,Φ',Fs,h1,⟨hap,A8 hw.fro h4,h7⟩,?_⟩⟩
  exact hw.eff (L1:=Fs) hp h2 h3 h4 h6 h5

theorem bo {f:Nat} {xs:List Operand} {ts:Array TypeId} {vs:List Value} {js:List Nat} {As R:List (List Nat)} {Q:Hp→List (List Nat)→Value→Prop} (hF:Fun P f=true) (ha:nM l xs=some vs) (hp:Eng.pick js L=some (As,R))
    (h:∀ w,St w0 Φ O L w→Ap w0 O As R→(∀ k∈As.flatten,k < w.heap.size)→Calls P f vs.toArray w (be Φ w As.flatten Q)) :
    OpK P (.call ⟨.value (.func f),xs.toArray,ts⟩) l (St w0 Φ O L) (fun v Φ' Fs=>Ap w0 O As R∧FrH As.flatten Φ Φ'∧Q Φ' Fs v) (fun v Φ' Fs=>St w0 Φ' O (Fs++R)):=
  GO (n:=0) (fun n a w o ho hf=>Aj hF ha ho hf) hp h
def lv (Φ:Hp) (v v':Value) (w':World):Hp:=fun k=>if k∈ob v∨k∈ob v' then w'.heap[k]? else Φ k

theorem FP (v:Value):(ob v).Nodup:=by
  unfold ob; cases v.ownBlock <;> simp
theorem pY {e sz n:Nat} {v:Value} {cells:List Value} (h:w.ownsRow 0 e sz v n cells):∀ k∈ob v,k < w.heap.size:=fun k hk=>(h.lt k (by simpa [ob] using hk)).2

theorem ED {v v':Value} (hi:In Φ w) (hc:Chg (ob v) w w'):In (lv Φ v v' w') w':=fun k o hk=>by
  unfold lv at hk; split at hk
  · exact hk
  · rename_i hno
    rw [hc.block k (hi.lt hk) (fun hm=>hno (.inl hm))]; exact hi k o hk
theorem pE {v v':Value} (hb:∀ k∈ob v',k∈ob v∨w.heap.size≤k):∀ k,k < w.heap.size→k ∉ ob v→lv Φ v v' w' k=Φ k:=fun k hk hn=>by
  unfold lv; rw [if_neg]
  rintro (h | h)
  · exact hn h
  · rcases hb k h with h | h
    · exact hn h
    · omega

theorem wQ {α:Type} {R:Hp→List Nat→List Value→α→Prop} (hR:bQ R) {e sz:Nat} {v v':Value} {cells:List Value} {Fs:List (List Nat)} {xs:List α} (hi:In Φ w) (hc:Chg (ob v) w w') (hb:∀ k∈ob v',k∈ob v∨w.heap.size≤k)
    (hrow:w'.ownsRow 0 e sz v' xs.length cells) (hrc:RC R sz Φ Fs cells xs) (hk:Kw Φ Fs.flatten) (hd:Dj Fs.flatten (ob v)):FrH (ob v) Φ (lv Φ v v' w')∧OSl R e sz (lv Φ v v' w') Fs.flatten v' xs:=by
  have hfr:FrH (ob v) Φ (lv Φ v v' w'):=A8 hi (pE hb)
  refine ⟨hfr,hfr.kw hd hk,cells,Fs,oa.of_owns hrow (fun k hk=>by simp [lv,hk]),hrc.frame hR hfr hd,rfl⟩

theorem St.row {js:List Nat} {R:List (List Nat)} {v v':Value} (hw:St w0 Φ O L w) (hp:Eng.pick js L=some ([ob v],R)) (hc:Chg (ob v) w w') (hb:∀ k∈ob v',k∈ob v∨w.heap.size≤k) (hlt:∀ k∈ob v',k < w'.heap.size):St w0 (lv Φ v v' w') O (ob v' :: R) w':=by
  have h1:[ob v].flatten=ob v:=by simp
  refine hw.eff (L1:=[ob v']) hp (by rw [h1]; exact hc) (ED hw.fro hc) (by rw [h1]; exact pE hb) (fun k hk=>?_) (by simpa using FP v')
  simp only [List.flatten_cons,List.flatten_nil,List.append_nil] at hk ⊢
  exact ⟨hb k hk,hlt k hk⟩

def By (P:Program) (t n:Nat):Bool:=(P.info? t).map (·.bytes) == some n
def mk {α:Type} (z:α) (n:Int):Option (List α):=if 0≤n∧n≤4294967296 then some (List.replicate n.toNat z) else none

theorem tn {z:Array Value} {sz m i:Nat} (hz:z.size=sz) (hs:0 < sz) (hi:i < m):((madeCells z (m*sz)).toList.drop (i*sz)).take sz=z.toList:=by
  apply List.ext_getElem?
  intro j
  have hle:i*sz+sz≤m*sz:=by rw [← Nat.succ_mul]; exact Nat.mul_le_mul_right sz hi
  rw [List.getElem?_take]
  by_cases hj:j < sz
  · rw [if_pos hj,List.getElem?_drop]
    have h1:i*sz+j < (madeCells z (m*sz)).size:=by rw [size_madeCells]; omega
    rw [Array.getElem?_toList,Array.getElem?_eq_getElem h1,Array.getElem?_toList,Array.getElem?_eq_getElem (by omega)]
    simp only [madeCells,Array.getElem_map,Array.getElem_range]
    congr 1
    have h2:(i*sz+j) % z.size=j:=by
      rw [hz,Nat.mul_comm,Nat.mul_add_mod]; exact Nat.mod_eq_of_lt hj
    rw [h2]
    exact getElem!_pos z j (by omega)
  · rw [if_neg hj,List.getElem?_eq_none (by simp; omega)]

theorem fu:ob (.slice none 0 0)=[]:=rfl
theorem St.rowN {v':Value} (hw:St w0 Φ O L w) (hc:Chg [] w w') (hb:∀ k∈ob v',w.heap.size≤k) (hlt:∀ k∈ob v',k < w'.heap.size):St w0 (lv Φ (.slice none 0 0) v' w') O (ob v' :: L) w':=
  (hw.addNil).row (v:=.slice none 0 0) (js:=[0]) rfl hc (fun k hk=>.inr (hb k hk)) hlt

theorem Gv {α:Type} {R:Hp→List Nat→List Value→α→Prop} {t e sz by':Nat} {x y:Operand} {z:Value} {zx:α} {n m:Int} {xs:List α}
    (ht:Sl P t e sz=true) (hz:Zr P e z) (hb:By P e by'=true) (hsm:Nat.ble by' 65536=true) (hs0:Nat.blt 0 sz=true) (hzs:z.cells.size=sz) (hR:∀ Φ,R Φ [] z.cells.toList zx)
    (hx:opv l x=some (.int .i64 n)) (hy:opv l y=some (.int .i64 m)) (hnm:n≤m) (hm:mk zx n=some xs) (hm4:m≤4294967296) :
    OpE P (.makeSlice t x y) l (St w0 Φ O L) (fun v Φ' D=>FrH [] Φ Φ'∧OSl R e sz Φ' [] v xs) (fun v Φ' D=>St w0 Φ' O (ob v :: L)):=fun nn a w o ho hf hw=>by
  unfold mk at hm
  split at hm
  · rename_i hbd
    obtain ⟨h0,h1⟩:=hbd
    simp only [Option.some.injEq] at hm
    subst hm
    have hsz:0 < sz:=by simpa using hs0
    obtain ⟨c,rfl⟩:=Int.eq_ofNat_of_zero_le (show 0≤m by omega)
    obtain ⟨n',rfl⟩:=Int.eq_ofNat_of_zero_le h0
    have hnc:n'≤c:=by omega
    simp only [Int.toNat_natCast]
    have hrow:(w.alloc (.cells (madeCells z.cells (c*sz)) e)).ownsRow 0 e sz (.slice (some ⟨w.heap.size,0,none⟩) n' c) n' (madeCells z.cells (n'*sz)).toList:=by
      refine ⟨by simp [size_madeCells],.inr ⟨w.heap.size,c,_,rfl,Nat.zero_le _,heap_alloc_new w _,hnc,by unfold maxLen; omega,by rw [size_madeCells],?_⟩⟩
      apply List.ext_getElem?
      intro j
      have hle:n'*sz≤c*sz:=Nat.mul_le_mul_right sz hnc
      rw [List.getElem?_take]
      by_cases hj:j < n'*sz
      · rw [if_pos hj,Array.getElem?_toList,Array.getElem?_toList,Array.getElem?_eq_getElem (by rw [size_madeCells]; omega),Array.getElem?_eq_getElem (by rw [size_madeCells]; omega)]
        simp [madeCells]
      · rw [if_neg hj,List.getElem?_eq_none (by simp [size_madeCells]; omega)]
    have hrc:RC R sz Φ (List.replicate n' []) (madeCells z.cells (n'*sz)).toList (List.replicate n' zx):=by
      refine ⟨by simp [size_madeCells],by simp,fun i x hi=>?_⟩
      have him:i < n':=by have:=(List.getElem?_eq_some_iff.1 hi).1; simpa using this
      rw [tn hzs hsz him]
      have hx':x=zx:=by
        rw [List.getElem?_replicate] at hi
        simp [him] at hi; exact hi.symm
      have hF:(List.replicate n' ([]:List Nat)).getD i []=[]:=by
        simp [List.getD_eq_getElem?_getD,List.getElem?_replicate,him]
      rw [hx',hF]; exact hR _
    have hfl:(List.replicate n' ([]:List Nat)).flatten=[]:=by simp
    have hch:Chg [] w (w.alloc (.cells (madeCells z.cells (c*sz)) e)):=Chg.of_none (l5 _ _) (Nat.le_refl _) _
    have hob:∀ k∈ob (.slice (some ⟨w.heap.size,0,none⟩) n' c),w.heap.size≤k:=fun k hk=>by simp [ob,Value.ownBlock] at hk; omega
    have hnew:=hw.rowN hch hob (pY hrow)
    have hfr:FrH [] Φ (lv Φ (.slice none 0 0) (.slice (some ⟨w.heap.size,0,none⟩) n' c) (w.alloc (.cells (madeCells z.cells (c*sz)) e))):=A8 hw.fro (pE (v:=.slice none 0 0) (fun k hk=>.inr (hob k hk)))
    refine ⟨_,_,[],_,?_,⟨hfr,Kw.nil,_,List.replicate n' [],oa.of_owns (by simpa using hrow) (fun k hk=>by simp [lv,hk]),⟨hrc.len,hrc.flen,fun i x hi=>?_⟩,hfl.symm⟩,hnew⟩
    · unfold Sl at ht
      split at ht
      · rename_i e' hu
        simp only [Bool.and_eq_true,beq_iff_eq] at ht
        obtain ⟨rfl,ht⟩:=ht
        cases hti:P.info? e' with
        | none=>simp [hti] at ht
        | some ti=>
          have h2:ti.size=sz:=by simpa [hti] using ht
          have h3:ti.zero=some z:=by unfold Zr at hz; simpa [hti] using hz
          have h4:ti.bytes=by':=by unfold By at hb; simpa [hti] using hb
          have hby:by'≤65536:=by simpa using hsm
          have hr:=run_make (P:=P) w t e' ti z hu hti h3 .i64 .i64 n' c (by omega) (by omega) (by
            rw [h4]
            have h5:by'*c≤65536*4294967296:=Nat.mul_le_mul hby (by omega)
            have h6:((by'*c:Nat):Int)≤281474976710656:=by omega
            rw [Int.natCast_mul] at h6
            exact h6) (by omega)
          unfold execOp
          simp only [ho,hf.eval hx,hf.eval hy]
          simp only [Sem.run_bind,hr,h2,Int.toNat_natCast]
          rfl
      · cases ht
    · have hR':=hrc.el i x hi
      have him:i < n':=by have:=(List.getElem?_eq_some_iff.1 hi).1; simpa using this
      have hx':x=zx:=by
        rw [List.getElem?_replicate] at hi
        simp [him] at hi; exact hi.symm
      have hF:(List.replicate n' ([]:List Nat)).getD i []=[]:=by
        simp [List.getD_eq_getElem?_getD,List.getElem?_replicate,him]
      rw [tn hzs hsz him,hx',hF]; exact hR _
  · cases hm

def Ei (P:Program) (e:Nat) (z:Value) (sz by':Nat):Prop:=(P.info? e).map (fun i=>(i.zero,i.size,i.bytes))=some (some z,sz,by')

theorem Ei.info {P:Program} {e sz by':Nat} {z:Value} (h:Ei P e z sz by'):∃ i,P.info? e=some i∧i.zero=some z∧i.size=sz∧i.bytes=by':=by
  unfold Ei at h
  cases hti:P.info? e with
  | none=>simp [hti] at h
  | some i=>
    simp only [hti,Option.map_some,Option.some.injEq,Prod.mk.injEq] at h
    exact ⟨i,rfl,h.1,h.2.1,h.2.2⟩

def Src (w:World) (u:Value) (m sz:Nat) (news:List Value):Prop:=
  news.length=m*sz∧((∃ c,u = .slice none 0 c∧m=0)∨∃ a c,u = .slice (some a) m c∧∀ j x,news[j]?=some x→w.cell? (a.add j)=some x)

theorem tF {P:Program} {w:World} (base:Nat) (t ty e:TypeId) (i:TypeInfo) (size c:Nat) (ht:P.underlying t=some (.slice e)) (hi:P.info? e=some i)
    (v:Value) (n:Nat) (xs:List Value) (hown:w.ownsRow base e size v n xs) :
    (Builtin.append_ #[t,t] ty #[v,.slice none 0 c]).run P w = .ok v w:=by
  rcases hown.2 with ⟨rfl,rfl⟩ | ⟨g,cap,cur,rfl,_,_,hnc,_⟩
  · simp [Builtin.append_,run_underlying ht,sizeOf,typeInfo,hi,Builtin.lenOf,Builtin.firstCells]
  · simp [Builtin.append_,run_underlying ht,sizeOf,typeInfo,hi,Builtin.lenOf,Builtin.firstCells,hnc,storeCells]

theorem vP {P:Program} {t ty e sz by' T m n:Nat} {z v u:Value} {cells news:List Value} (ht:Sl P t e sz=true) (he:Ei P e z sz by') (hT:T=e) (hzs:z.cells.size=sz) (hs0:0 < sz) (h1:∀ x∈news,x.oneCell'=true)
    (hrow:w.ownsRow 0 T sz v n cells) (hsrc:Src w u m sz news) (hb:by'≤32768) (hbd:n+m≤4294967296) :
    ∃ v' w',(Builtin.append_ #[t,t] ty #[v,u]).run P w = .ok v' w'∧w'.ownsRow 0 T sz v' (n+m) (cells++news)∧Chg v.ownBlock.toList w w'∧(∀ x∈v'.ownBlock.toList,x∈v.ownBlock.toList∨w.heap.size≤x):=by
  obtain ⟨i,hi,hz,hsz,hby⟩:=he.info
  subst hT
  have hu:=ui ht
  have hmax:n+m≤maxLen:=by unfold maxLen; omega
  have hbytes:(n+m)*by'≤140737488355328:=by
    have:=Nat.mul_le_mul hbd hb
    omega
  obtain ⟨hl,hsrc⟩:=hsrc
  have hup:∀ {b:Nat} {w':World} {v':Value} {n':Nat} {xs:List Value},w'.ownsRow b T sz v' n' xs→w'.ownsRow 0 T sz v' n' xs:=fun h=>by
    obtain ⟨h1,h2⟩:=h
    refine ⟨h1,?_⟩
    rcases h2 with h2 | ⟨gb,cap,cur,h3,h4,h5⟩
    · exact .inl h2
    · exact .inr ⟨gb,cap,cur,h3,Nat.zero_le _,h5⟩
  rcases hsrc with ⟨c,rfl,rfl⟩ | ⟨a,c,rfl,hnews⟩
  · have hn0:news=[]:=List.eq_nil_of_length_eq_zero (by simpa using hl)
    subst hn0
    refine ⟨v,w,tF (P:=P) 0 t ty T i sz c hu hi v n cells hrow,by simpa using hrow,Chg.refl _ _,fun x hx=>.inl hx⟩
  · rcases hrow.2 with ⟨rfl,rfl⟩ | ⟨gb,cap,cur,rfl,hb0,hg,hnc,hcm,hcs,htake⟩
    · have hc0:cells=[]:=List.eq_nil_of_length_eq_zero (by simpa using hrow.1)
      subst hc0
      obtain ⟨v',w',r1,r2,r3,_⟩:=run_append_own (P:=P) w w.heap.size t ty T i z sz by' hu hi hz hsz hby hzs hs0 (.slice none 0 0) 0 [] (World.ownsRow_nil w _ T sz) a m c news hl hnews h1 hmax hbytes (Nat.le_refl _)
      refine ⟨v',w',r1,hup r2,Chg.of_opt r3 (pr _ r1),fun x hx=>.inr ?_⟩
      exact (r2.lt x (by simpa using hx)).1
    · by_cases hroom:n+m≤cap
      · obtain ⟨w',r1,r2,r3⟩:=run_append_fits (P:=P) w 0 t ty T i sz hu hi hsz gb n cap cells hrow a m c news hl hnews h1 hroom
        exact ⟨_,w',r1,r2,Chg.of_some r3 (pr _ r1),fun x hx=>.inl (by simpa [Value.ownBlock] using hx)⟩
      · have hcl:cells.length=n*sz:=hrow.1
        obtain ⟨v',w',r1,r2,r3⟩:=run_append_arg_grows (P:=P) w t ty T i z sz by' hu hi hz hsz hby hzs hs0 ⟨gb,0,none⟩ n cap cells hcl (fun j x hj=>by
          rw [Addr.add_mid]
          rw [← htake,List.getElem?_take] at hj
          split at hj
          · simp only [World.cell?,hg,Nat.zero_add]; simpa using hj
          · cases hj) a m c news hl hnews (by omega) hmax hbytes
        refine ⟨v',w',r1,hup r2,Chg.of_none r3 (pr _ r1) _,fun x hx=>.inr ?_⟩
        exact (r2.lt x (by simpa using hx)).1

def app {α:Type} (xs ys:List α):Option (List α):=if xs.length+ys.length≤4294967296 then some (xs++ys) else none

theorem EE {α:Type} {xs ys zs:List α} (h:app xs ys=some zs):xs.length+ys.length≤4294967296∧zs=xs++ys:=by
  unfold app at h
  split at h
  · simp only [Option.some.injEq] at h; exact ⟨by assumption,h.symm⟩
  · cases h

theorem J7 {P:Program} {t:Nat} {s x:Operand} {a:Act} {o:Oper} {v u v':Value} (ho:o.op = .call ⟨.builtin .append,#[s,x],#[t,t]⟩) (hs:a.eval s=v) (hx:a.eval x=u)
    (hr:∀ ty,(Builtin.append_ #[t,t] ty #[v,u]).run P w = .ok v' w'):(execOp a.eval o).run P w = .ok (.value v') w':=by
  unfold execOp
  simp only [ho,resolve]
  simp [invoke,builtin,Sem.run_bind,hs,hx,hr]

theorem xO {P:Program} {t ty ty':Nat} {v u:Value}:(Builtin.append_ #[t,t] ty #[v,u]).run P w=(Builtin.append_ #[t,t] ty' #[v,u]).run P w:=rfl

theorem Cr {α:Type} {R:Hp→List Nat→List Value→α→Prop} {sz:Nat} {F:List Nat} {u:Value} {ys:List α} (h:RSl R sz Φ F u ys) (h1:fm R) :
    ∃ Gs news,RC R sz Φ Gs news ys∧(∀ k∈Gs.flatten,k∈F)∧(∀ x∈news,x.oneCell'=true)∧∀ w,In Φ w→Src w u ys.length sz news:=by
  obtain ⟨Fb,Gs,hg0,hg1,hg2,hg3⟩:=h.elems
  have key:∀ (n:Nat),n≤ys.length→∃ news:List Value,news.length=n*sz∧(∀ i x,i < n→ys[i]?=some x→R Φ (Gs.getD i []) ((news.drop (i*sz)).take sz) x)∧(∀ x∈news,x.oneCell'=true)∧(0 < n→rg Φ (sb u) (so u) news):=by
    intro n
    induction n with
    | zero=>intro _; exact ⟨[],by simp,fun i x hi=>by omega,by simp,fun h=>by omega⟩
    | succ n ih=>
      intro hn
      obtain ⟨news,h2,h3,h4,h5⟩:=ih (by omega)
      obtain ⟨cs,h6,h7,h8⟩:=hg3 n ys[n] (List.getElem?_eq_getElem (by omega))
      refine ⟨news++cs,by simp [h2,h6,Nat.add_mul],fun i x hi hx=>?_,fun x hx=>?_,fun _=>?_⟩
      · rcases Nat.lt_or_ge i n with hlt | hge
        · have hle:i*sz+sz≤news.length:=by rw [h2,← Nat.succ_mul]; exact Nat.mul_le_mul_right sz hlt
          rw [List.drop_append_of_le_length (by omega),List.take_append_of_le_length (by simp; omega)]
          exact h3 i x hlt hx
        · obtain rfl:i=n:=by omega
          have hx':x=ys[i]:=by rw [List.getElem?_eq_getElem (by omega)] at hx; simpa using hx.symm
          rw [hx',← h2]
          rw [List.drop_left,List.take_of_length_le (by omega)]
          exact h8
      · rcases List.mem_append.1 hx with hx | hx
        · exact h4 x hx
        · exact h1 _ _ _ _ h8 x hx
      · obtain ⟨C,T,fz,r1,r2⟩:=h7
        refine ⟨C,T,fz,r1,fun j v hj=>?_⟩
        rcases Nat.lt_or_ge j news.length with hlt | hge
        · rw [List.getElem?_append_left hlt] at hj
          have hn0:0 < n:=by
            rcases Nat.eq_zero_or_pos n with h0 | h0
            · subst h0; simp at h2; subst h2; simp at hlt
            · exact h0
          obtain ⟨C',T',fz',r1',r2'⟩:=h5 hn0
          rw [r1] at r1'
          simp only [Option.some.injEq,Obj.cells.injEq] at r1'
          obtain ⟨rfl,_,_⟩:=r1'
          exact r2' j v hj
        · rw [List.getElem?_append_right hge] at hj
          have:=r2 (j - news.length) v hj
          rw [← this]; congr 1; omega
  obtain ⟨news,h2,h3,h4,h5⟩:=key ys.length (Nat.le_refl _)
  refine ⟨Gs,news,⟨h2,hg1,fun i x hi=>h3 i x (List.getElem?_eq_some_iff.1 hi).1 hi⟩,fun k hk=>by rw [hg2]; exact List.mem_append.2 (.inr hk),h4,fun w hin=>⟨h2,?_⟩⟩
  obtain ⟨p,c,hp,_⟩:=h.form
  by_cases hys:ys=[]
  · subst hys
    cases p with
    | none=>exact .inl ⟨c,hp,rfl⟩
    | some a=>
      refine .inr ⟨a,c,hp,fun j x hj=>?_⟩
      have:news=[]:=List.eq_nil_of_length_eq_zero (by simpa using h2)
      subst this; simp at hj
  · obtain ⟨c',hc'⟩:=h.addr hys
    refine .inr ⟨_,c',hc',fun j x hj=>?_⟩
    rw [Addr.add_mid]
    have:=rg.rangeAt hin (h5 (List.length_pos_iff.2 hys)) j x hj
    exact this

def uA {α:Type} (R:Hp→List Nat→List Value→α→Prop):Prop:=∀ Φ F cs x,R Φ F cs x→F=[]
theorem RI.flat {kd:IntKind}:uA (RI kd):=fun _ _ _ _ h=>h.2
theorem RB.flat:uA RB:=fun _ _ _ _ h=>h.2
theorem RS.flat:uA RS:=fun _ _ _ _ h=>h.2
theorem RC.flat {α:Type} {R:Hp→List Nat→List Value→α→Prop} (h0:uA R) {sz:Nat} {Fs:List (List Nat)} {cells:List Value} {xs:List α} (h:RC R sz Φ Fs cells xs):Fs.flatten=[]:=by
  rw [List.flatten_eq_nil_iff]
  intro F hF
  obtain ⟨i,hi,rfl⟩:=List.getElem_of_mem hF
  have hx:i < xs.length:=by rw [← h.flen]; exact hi
  have e:=h0 _ _ _ _ (h.el i xs[i] (List.getElem?_eq_getElem hx))
  simpa [List.getD_eq_getElem?_getD,List.getElem?_eq_getElem hi] using e

section app
variable {α:Type} {R:Hp→List Nat→List Value→α→Prop} {t e sz by':Nat} {s x:Operand} {z v u:Value} {xs ys zs:List α} {D F:List Nat} {js:List Nat} {Rr:List (List Nat)}

theorem BP (hR:bQ R) (ht:Sl P t e sz=true) (he:Ei P e z sz by') (hzs:z.cells.size=sz) (hs0:Nat.blt 0 sz=true) (hb:Nat.ble by' 32768=true)
    (hs:opv l s=some v) (hx:opv l x=some u) (hp:Eng.pick js L=some ([ob v],Rr)) {cells news:List Value} {Fs Gs:List (List Nat)}
    (hpr:oa Φ e sz v xs.length cells) (hrc:RC R sz Φ Fs cells xs) (hk:Kw Φ Fs.flatten) (hrx:RC R sz Φ Gs news ys) (hkx:Kw Φ Gs.flatten) (h1:∀ x∈news,x.oneCell'=true) (hsrc:∀ w,In Φ w→Src w u ys.length sz news)
    (hdj:∀ w,St w0 Φ O L w→Dj (Fs++Gs).flatten (ob v)) (happ:app xs ys=some zs) :
    OpE P (.call ⟨.builtin .append,#[s,x],#[t,t]⟩) l (St w0 Φ O L) (fun v' Φ' D'=>(Ap w0 O [ob v] Rr∧FrH [ob v].flatten Φ Φ')∧D'=(Fs++Gs).flatten∧OSl R e sz Φ' D' v' zs) (fun v' Φ' D'=>St w0 Φ' O (ob v' :: Rr)):=fun n a w o ho hf hw=>by
  obtain ⟨hbd,rfl⟩:=EE happ
  obtain ⟨v',w',r1,r2,r3,r4⟩:=vP (P:=P) (ty:=0) ht he rfl hzs (by simpa using hs0) h1 (hpr.owns hw.fro) (hsrc w hw.fro) (by simpa using hb) hbd
  have hlen:(xs++ys).length=xs.length+ys.length:=by simp
  have hkk:Kw Φ (Fs++Gs).flatten:=by rw [List.flatten_append]; exact hk.app hkx
  obtain ⟨g1,g2⟩:=wQ hR hw.fro r3 r4 (by rw [hlen]; exact r2) (hrc.append hrx) hkk (hdj w hw)
  have h1':[ob v].flatten=ob v:=by simp
  exact ⟨v',_,_,w',J7 ho (hf.eval hs) (hf.eval hx) (fun ty=>by rw [xO (ty':=0)]; exact r1),⟨⟨hw.ap hp,by rw [h1']; exact g1⟩,rfl,g2⟩,hw.row hp r3 r4 (pY r2)⟩

theorem ee (hR:bQ R) (hone:fm R) (hfl:uA R) (ht:Sl P t e sz=true) (he:Ei P e z sz by') (hzs:z.cells.size=sz) (hs0:Nat.blt 0 sz=true) (hb:Nat.ble by' 32768=true)
    (hs:opv l s=some v) (hx:opv l x=some u) (hp:Eng.pick js L=some ([ob v],Rr)) (h:OSl R e sz Φ D v xs) (hy:RSl R sz Φ F u ys) (happ:app xs ys=some zs) :
    OpE P (.call ⟨.builtin .append,#[s,x],#[t,t]⟩) l (St w0 Φ O L) (fun v' Φ' D'=>(Ap w0 O [ob v] Rr∧FrH [ob v].flatten Φ Φ')∧OSl R e sz Φ' [] v' zs) (fun v' Φ' D'=>St w0 Φ' O (ob v' :: Rr)):=by
  obtain ⟨cells,Fs,g1,g2,rfl⟩:=h.ex
  obtain ⟨Gs,news,k1,k2,k3,k4⟩:=Cr hy hone
  have e0:(Fs++Gs).flatten=[]:=by rw [List.flatten_append,g2.flat hfl,k1.flat hfl]; rfl
  intro n a w o ho hf hw
  obtain ⟨v',Φ',D',w',q1,⟨q2,q3,q4⟩,q5⟩:=BP (P:=P) hR ht he hzs hs0 hb hs hx hp g1 g2 h.kn k1 (by rw [k1.flat hfl]; exact Kw.nil) k3 k4 (fun w hw=>by rw [e0]; exact Dj.nil _) happ n a w o ho hf hw
  exact ⟨v',Φ',D',w',q1,⟨q2,by rw [← e0,← q3]; exact q4⟩,q5⟩

theorem fY (hR:bQ R) (hone:fm R) (ht:Sl P t e sz=true) (he:Ei P e z sz by') (hzs:z.cells.size=sz) (hs0:Nat.blt 0 sz=true) (hb:Nat.ble by' 32768=true)
    (hs:opv l s=some v) (hx:opv l x=some u) (hp:Eng.pick js L=some ([ob v],Rr)) (h:OSl R e sz Φ D v xs) (hy:OSl R e sz Φ F u ys) (hd:Ap w0 O [ob v] Rr→Dj D [ob v].flatten) (hdy:Ap w0 O [ob v] Rr→Dj F [ob v].flatten) (happ:app xs ys=some zs) :
    OpE P (.call ⟨.builtin .append,#[s,x],#[t,t]⟩) l (St w0 Φ O L) (fun v' Φ' D'=>(Ap w0 O [ob v] Rr∧FrH [ob v].flatten Φ Φ')∧OSl R e sz Φ' (D++F) v' zs) (fun v' Φ' D'=>St w0 Φ' O (ob v' :: Rr)):=by
  obtain ⟨cells,Fs,g1,g2,rfl⟩:=h.ex
  obtain ⟨news,Gs,k1,k2,rfl⟩:=hy.ex
  have hsrc:∀ w,In Φ w→Src w u ys.length sz news:=fun w hin=>⟨k1.1,by
    rcases (k1.owns hin).2 with ⟨h1,h2⟩ | ⟨gb,cap,cur,h1,_,hg,_,_,_,htake⟩
    · exact .inl ⟨0,h1,h2⟩
    · refine .inr ⟨⟨gb,0,none⟩,cap,h1,fun i x hi=>?_⟩
      rw [Addr.add_mid]
      rw [← htake,List.getElem?_take] at hi
      split at hi
      · simp only [World.cell?,hg,Nat.zero_add]; simpa using hi
      · cases hi⟩
  intro n a w o ho hf hw
  obtain ⟨v',Φ',D',w',q1,⟨q2,q3,q4⟩,q5⟩:=BP (P:=P) hR ht he hzs hs0 hb hs hx hp g1 g2 h.kn k2 hy.kn (RC.one hone (by simpa using hs0) k2) hsrc (fun w hw=>by rw [List.flatten_append]; have:=(hd (hw.ap hp)).app (hdy (hw.ap hp)); simpa using this) happ n a w o ho hf hw
  exact ⟨v',Φ',D',w',q1,⟨q2,by rw [← List.flatten_append,← q3]; exact q4⟩,q5⟩

theorem Ba (hR:bQ R) (hkn:cW R) (hone:fm R) (ht:Sl P t e sz=true) (he:Ei P e z sz by') (hzs:z.cells.size=sz) (hs0:Nat.blt 0 sz=true) (hb:Nat.ble by' 32768=true)
    (hs:opv l s=some v) (hx:opv l x=some u) (hp:Eng.pick js L=some ([ob v],Rr)) (h:OSl R e sz Φ D v xs) (hy:RSl R sz Φ F u ys) (hd:Ap w0 O [ob v] Rr→Dj D [ob v].flatten) (hdy:Ap w0 O [ob v] Rr→Dj F [ob v].flatten) (happ:app xs ys=some zs) :
    OpE P (.call ⟨.builtin .append,#[s,x],#[t,t]⟩) l (St w0 Φ O L) (fun v' Φ' D'=>(Ap w0 O [ob v] Rr∧FrH [ob v].flatten Φ Φ')∧(∀ k∈D',k∈D++F)∧OSl R e sz Φ' D' v' zs) (fun v' Φ' D'=>St w0 Φ' O (ob v' :: Rr)):=by
  obtain ⟨cells,Fs,g1,g2,rfl⟩:=h.ex
  obtain ⟨Gs,news,k1,k2,k3,k4⟩:=Cr hy hone
  have hin:∀ k∈(Fs++Gs).flatten,k∈Fs.flatten++F:=fun k hk=>by
    rw [List.flatten_append] at hk
    rcases List.mem_append.1 hk with hk | hk
    · exact List.mem_append.2 (.inl hk)
    · exact List.mem_append.2 (.inr (k2 k hk))
  intro n a w o ho hf hw
  obtain ⟨v',Φ',D',w',q1,⟨q2,q3,q4⟩,q5⟩:=BP (P:=P) hR ht he hzs hs0 hb hs hx hp g1 g2 h.kn k1 (hy.kn.sub k2) k3 k4 (fun w hw=>by have:=((hd (hw.ap hp)).app (hdy (hw.ap hp))).sub hin; simpa using this) happ n a w o ho hf hw
  exact ⟨v',Φ',D',w',q1,⟨q2,fun k hk=>hin k (by rw [← q3]; exact hk),q4⟩,q5⟩
end app

end Go.Proofs.YtedmfnmbjglmbaaGreat.Eng
