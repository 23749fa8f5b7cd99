/-
  The engine, part 1: a judgement over the rest of a function's run (a stack of items), an environment of slots as a short list, and one rule for each form of code.
  Nothing here names a program.
-/
import Derived.WalkKit
import Derived.Below
import Derived.Deep.Quiet
import Derived.Deep.MidRow
namespace Go.Proofs.YtedmfnmbjglmbaaGreat.Eng
open Go.RowKit (Below)
set_option linter.unusedVariables false
set_option linter.unusedSimpArgs false

abbrev Env:=List (Nat × Value)

def lk:Env→Nat→Option Value
  | [],_=>none
  | (k,v) :: r,n=>if k=n then some v else lk r n

def opv (l:Env):Operand→Option Value
  | .tmp k=>lk l k
  | .const v=>some v
  | .global g=>some (.pointer (some ⟨g,0,none⟩))
  | .func f=>some (.func (.func f) #[] #[])

structure Fr (n:Nat) (l:Env) (a:Act):Prop where
  size:a.tmps.size=n
  defers:a.defers=[]
  at_:∀ k v,lk l k=some v→a.tmps[k]?=some v

theorem Fr.eval {n:Nat} {l:Env} {a:Act} (h:Fr n l a) {x:Operand} {v:Value} (hx:opv l x=some v):a.eval x=v:=by
  cases x with
  | tmp k=>
    have:=h.at_ k v hx
    simp [Act.eval,this]
  | const c=>simpa [opv,Act.eval] using hx
  | global g=>simpa [opv,Act.eval] using hx
  | func f=>simpa [opv,Act.eval] using hx

theorem Fr.put {n:Nat} {l:Env} {a:Act} (h:Fr n l a) {d:Nat} (hd:Nat.blt d n=true) (v:Value):Fr n ((d,v) :: l) (a.put (some d) v):=by
  have hd':d < n:=by simpa using hd
  refine ⟨by simp [Act.put,h.size],h.defers,fun k u hk=>?_⟩
  simp only [lk] at hk
  simp only [Act.put,Array.getElem?_setIfInBounds,h.size]
  split at hk
  · rename_i e; subst e; simp at hk; subst hk; simp [hd']
  · rename_i e; rw [if_neg e]; exact h.at_ k u hk

theorem Fr.put_none {n:Nat} {l:Env} {a:Act} (h:Fr n l a) (v:Value):Fr n l (a.put none v):=h

theorem Fr.mono {n:Nat} {l l':Env} {a:Act} (h:Fr n l a) (hs:∀ k v,lk l' k=some v→lk l k=some v):Fr n l' a:=
  ⟨h.size,h.defers,fun k v hk=>h.at_ k v (hs k v hk)⟩

def Sub (l:Env):Env→Prop
  | []=>True
  | (k,v) :: r=>lk l k=some v∧Sub l r

theorem Sub.lk {l:Env}:∀ {l':Env},Sub l l'→∀ k v,lk l' k=some v→Eng.lk l k=some v
  | [],_,k,v,h=>by simp [Eng.lk] at h
  | (j,u) :: r,hs,k,v,h=>by
    simp only [Eng.lk] at h
    split at h
    · rename_i e; subst e; simp at h; subst h; exact hs.1
    · exact Sub.lk hs.2 k v h

structure G where
  P:Program
  f:FuncId
  n:Nat
  R:Ending→World→Prop

def At (g:G) (k:List Item) (a:Act) (w:World):Prop:=
  ∀ (b:Frame) (cs:List Frame),b.fn=g.f→b.kind = .normal →
    ∃ e w' fr,g.R e w'∧Comes g.P (lone (b.at a k) cs w) (lone fr cs w') e∧fr.fn=g.f∧fr.leaving g.P w' e

def WT (g:G) (k:List Item) (l:Env) (S:World→Prop):Prop:=∀ a w,Fr g.n l a→S w→At g k a w

theorem At.step {g:G} {k k':List Item} {a:Act} {w:World} (hs:∀ (b:Frame) (cs:List Frame),Steps g.P (lone (b.at a k) cs w) (lone (b.at a k') cs w))
    (h:At g k' a w):At g k a w:=fun b cs hb hk=>by
  obtain ⟨e,w',fr,h1,h2,h3⟩:=h b cs hb hk
  exact ⟨e,w',fr,h1,Comes.of_steps (hs b cs) h2,h3⟩

variable {g:G} {k:List Item} {l:Env} {S:World→Prop}

theorem WT.mono {l':Env} {S':World→Prop} (hl:Sub l l') (hS:∀ w,S w→S' w) (h:WT g k l' S'):WT g k l S:=
  fun a w hf hw=>h a w (hf.mono hl.lk) (hS w hw)

theorem WT.keep (l':Env) (hl:Sub l l') (h:WT g k l' S):WT g k l S:=WT.mono hl (fun _ h=>h) h

theorem WT.seq {x y:Code} (h:WT g (.code x :: .code y :: k) l S):WT g (.code (.seq x y) :: k) l S:=
  fun a w hf hw=>At.step (fun _ _=>.one step_seq) (h a w hf hw)

theorem WT.skip (h:WT g k l S):WT g (.code .skip :: k) l S:=
  fun a w hf hw=>At.step (fun _ _=>.one step_skip) (h a w hf hw)

theorem WT.block {id:Nat} {c:Code} (h:WT g (.code c :: .inBlock id :: k) l S):WT g (.code (.block id c) :: k) l S:=
  fun a w hf hw=>At.step (fun _ _=>.one step_block) (h a w hf hw)

theorem WT.inBlock {id:Nat} (h:WT g k l S):WT g (.inBlock id :: k) l S:=
  fun a w hf hw=>At.step (fun _ _=>.one step_inBlock) (h a w hf hw)

theorem WT.loop {c:Code} (h:WT g (.code c :: .inLoop c :: k) l S):WT g (.code (.loop c) :: k) l S:=
  fun a w hf hw=>At.step (fun _ _=>.one step_loop) (h a w hf hw)

theorem WT.inLoop {c:Code} (h:WT g (.code c :: .inLoop c :: k) l S):WT g (.inLoop c :: k) l S:=
  fun a w hf hw=>At.step (fun _ _=>.one step_inLoop) (h a w hf hw)

theorem WT.exit {id:Nat} {k':List Item} (hk:exitTo id k=some k') (h:WT g k' l S):WT g (.code (.exit id) :: k) l S:=
  fun a w hf hw=>At.step (fun _ _=>.one (step_exit hk)) (h a w hf hw)

theorem WT.cond {c:Operand} {x y:Code} {t:Bool} (hc:opv l c=some (.bool t)) (h1:t=true→WT g (.code x :: k) l S) (h2:t=false→WT g (.code y :: k) l S) :
    WT g (.code (.cond c x y) :: k) l S:=fun a w hf hw=>by
  refine At.step (fun _ _=>.one (step_cond (hf.eval hc))) ?_
  cases t
  · exact h2 rfl a w hf hw
  · exact h1 rfl a w hf hw

def ay (P:Program) (rs:Array ResultVar) (l:Env) (S:World→Prop) (v:Value):Prop:=
  ∀ (fn:Func) (n:Nat) (a:Act) (w:World),fn.results=rs→Fr n l a→S w→(results fn a.tmps).run P w = .ok v w

theorem At.ret {a:Act} {w:World} {fn:Func} {v:Value} (hf:g.P.funcs[g.f]?=some fn) (hd:a.defers=[]) (hr:(results fn a.tmps).run g.P w = .ok v w) (hR:g.R (.returned v) w) :
    At g (.code .ret :: k) a w:=fun b cs hb hk=>by
  refine ⟨.returned v,w,_,hR,.one step_ret,hb,rfl,hd,hk,fn,?_,hr⟩
  show g.P.funcs[b.fn]?=some fn
  rw [hb]; exact hf

theorem At.fin {a:Act} {w:World} {fn:Func} {v:Value} (hf:g.P.funcs[g.f]?=some fn) (hd:a.defers=[]) (hr:(results fn a.tmps).run g.P w = .ok v w) (hR:g.R (.returned v) w) :
    At g [] a w:=fun b cs hb hk=>by
  refine ⟨.returned v,w,_,hR,.one step_end,hb,rfl,hd,hk,fn,?_,hr⟩
  show g.P.funcs[b.fn]?=some fn
  rw [hb]; exact hf

theorem WT.ret {fn:Func} {v:Value} (hf:g.P.funcs[g.f]?=some fn) (hr:ay g.P fn.results l S v) (hR:∀ w,S w→g.R (.returned v) w):WT g (.code .ret :: k) l S:=
  fun a w hfr hw=>At.ret hf hfr.defers (hr fn g.n a w rfl hfr hw) (hR w hw)

theorem WT.fin {fn:Func} {v:Value} (hf:g.P.funcs[g.f]?=some fn) (hr:ay g.P fn.results l S v) (hR:∀ w,S w→g.R (.returned v) w):WT g [] l S:=
  fun a w hfr hw=>At.fin hf hfr.defers (hr fn g.n a w rfl hfr hw) (hR w hw)

theorem ay.none {P:Program}:ay P #[] l S (.tuple #[]):=fun fn n a w hr hf hw=>results_none hr a.tmps P w
theorem ay.tmp {P:Program} {t:Tmp} {v:Value} (h:lk l t=some v):ay P #[.tmp t] l S v:=fun fn n a w hr hf hw=>by
  rw [results_tmp hr]; simp [hf.at_ t v h]
def Ep (P:Program) (r:ResultVar) (l:Env) (S:World→Prop) (v:Value):Prop:=
  match r with
  | .tmp t=>lk l t=some v
  | .cell p t=>∃ a,lk l p=some (.pointer (some a))∧∀ w,S w→(loadVar t a).run P w = .ok v w

theorem ay.one {P:Program} {r:ResultVar} {v:Value} (h:Ep P r l S v):ay P #[r] l S v:=fun fn n a w hr hf hw=>by
  cases r with
  | tmp t=>rw [results_tmp hr]; simp [hf.at_ t v h]
  | cell p t=>
    obtain ⟨ad,h1,h2⟩:=h
    simp [results,hr,hf.at_ p _ h1,asAddr,h2 w hw]
theorem ay.two {P:Program} {r r':ResultVar} {v v':Value} (h:Ep P r l S v) (h':Ep P r' l S v'):ay P #[r,r'] l S (.tuple #[v,v']):=fun fn n a w hr hf hw=>by
  cases r with
  | tmp t=>
    cases r' with
    | tmp u=>rw [results_tmp2 hr]; simp [hf.at_ t v h,hf.at_ u v' h']
    | cell p u=>
      obtain ⟨ad,h1,h2⟩:=h'
      simp [results,hr,hf.at_ p _ h1,asAddr,h2 w hw,hf.at_ t v h]
  | cell q t=>
    obtain ⟨ad,h1,h2⟩:=h
    cases r' with
    | tmp u=>simp [results,hr,hf.at_ q _ h1,asAddr,h2 w hw,hf.at_ u v' h']
    | cell p u=>
      obtain ⟨ad',h1',h2'⟩:=h'
      simp [results,hr,hf.at_ q _ h1,asAddr,h2 w hw,hf.at_ p _ h1',h2' w hw]

def QK (K:Act→World→Prop):Exit→Act→World→Prop
  | .normal,a,w=>K a w
  | _,_,_=>False

def WL (g:G) (k:List Item) (ops:Array Oper) (rest:List Oper) (l:Env) (S:World→Prop):Prop:=
  ∀ a w,Fr g.n l a→S w→wpList g.P ops (QK (At g k)) rest a w

theorem At.of_wp {c:Code} {a:Act} {w:World} (h:c.wp g.P (QK (At g k)) a w):At g (.code c :: k) a w:=fun b cs hb hk=>by
  obtain ⟨e,a',w',hq,harr⟩:=h b k cs
  cases e with
  | normal=>
    obtain ⟨e,w'',fr,h1,h2,h3⟩:=hq b cs hb hk
    exact ⟨e,w'',fr,h1,Comes.of_steps harr h2,h3⟩
  | _=>exact hq.elim

theorem WT.region {id:Nat} {os:List Oper} (h:WL g k os.toArray os l S):WT g (.code (.region id os.toArray false) :: k) l S:=
  fun a w hf hw=>At.of_wp (wp_region_lit (h a w hf hw))

variable {ops:Array Oper} {rest:List Oper}

theorem WL.nil (h:WT g k l S):WL g k ops [] l S:=fun a w hf hw=>wpList_nil (h a w hf hw)

theorem WL.mono {l':Env} {S':World→Prop} (hl:Sub l l') (hS:∀ w,S w→S' w) (h:WL g k ops rest l' S'):WL g k ops rest l S:=
  fun a w hf hw=>h a w (hf.mono hl.lk) (hS w hw)

def OpQ (P:Program) (op:Op) (l:Env) (S:World→Prop) (v:Value):Prop:=
  ∀ (n:Nat) (a:Act) (w:World) (o:Oper),o.op=op→Fr n l a→S w→(execOp a.eval o).run P w = .ok (.value v) w

theorem WL.q {o:Oper} {d:Nat} {v:Value} (hop:OpQ g.P o.op l S v) (hg:o.guard=none) (hd:o.dst=some d) (hn:Nat.blt d g.n=true)
    (h:WL g k ops rest ((d,v) :: l) S):WL g k ops (o :: rest) l S:=fun a w hf hw=>
  wpList_plain hg fun K hK=>by
    unfold Oper.wp
    rw [hop g.n a w o rfl hf hw,Oper.upon_value,hd]
    exact hK _ _ (h _ _ (hf.put hn v) hw)

theorem WL.eff {o:Oper} {d:Nat} {α:Type} {v:α→Value} {S':α→World→Prop} (hop:∀ (a:Act) (w:World),Fr g.n l a→S w→∃ (x:α) (w':World),(execOp a.eval o).run g.P w = .ok (.value (v x)) w'∧S' x w')
    (hg:o.guard=none) (hd:o.dst=some d) (hn:Nat.blt d g.n=true)
    (h:∀ x,WL g k ops rest ((d,v x) :: l) (S' x)):WL g k ops (o :: rest) l S:=fun a w hf hw=>
  wpList_plain hg fun K hK=>by
    obtain ⟨x,w',hr,hs⟩:=hop a w hf hw
    unfold Oper.wp
    rw [hr,Oper.upon_value,hd]
    exact hK _ _ (h x _ _ (hf.put hn (v x)) hs)

theorem WL.effU {o:Oper} {α:Type} {S':α→World→Prop} (hop:∀ (a:Act) (w:World),Fr g.n l a→S w→∃ (x:α) (w':World),(execOp a.eval o).run g.P w = .ok .skip w'∧S' x w')
    (hg:o.guard=none) (hd:o.dst=none)
    (h:∀ x,WL g k ops rest l (S' x)):WL g k ops (o :: rest) l S:=fun a w hf hw=>
  wpList_plain hg fun K hK=>by
    obtain ⟨x,w',hr,hs⟩:=hop a w hf hw
    unfold Oper.wp
    rw [hr,Oper.upon_skip,hd]
    exact hK _ _ (h x _ _ (hf.put_none undef) hs)

def OpC (P:Program) (op:Op) (l:Env) (S:World→Prop) {α:Type} (v:α→Value) (S':α→World→Prop):Prop:=
  ∀ (n:Nat) (a:Act) (w:World) (o:Oper),o.op=op→Fr n l a→S w →
    ∃ f args,(execOp a.eval o).run P w = .ok (.enter f args) w∧Calls P f args w fun e w'=>∃ x,e = .returned (v x)∧S' x w'

theorem WL.call {o:Oper} {d:Nat} {α:Type} {v:α→Value} {S':α→World→Prop} (hop:OpC g.P o.op l S v S')
    (hg:o.guard=none) (hd:o.dst=some d) (hn:Nat.blt d g.n=true)
    (h:∀ x,WL g k ops rest ((d,v x) :: l) (S' x)):WL g k ops (o :: rest) l S:=fun a w hf hw=>
  wpList_plain hg fun K hK=>by
    obtain ⟨f,args,hr,hc⟩:=hop g.n a w o rfl hf hw
    unfold Oper.wp
    rw [hr,Oper.upon_enter,hd]
    refine hc.mono ?_
    rintro e w' ⟨x,rfl,hs⟩
    exact hK _ _ (h x _ _ (hf.put hn (v x)) hs)

def yl (ops:Array Oper) (l:Env) (j:Nat):Option Value:=((ops[j]?).bind (·.dst)).bind (lk l)

theorem lF {n:Nat} {a:Act} (hf:Fr n l a) {j:Nat} {b:Bool} (h:yl ops l j=some (.bool b)):yielded ops a.tmps j=some b:=by
  unfold yl at h
  unfold yielded
  cases hd:(ops[j]?).bind (·.dst) with
  | none=>simp [hd] at h
  | some t=>
    simp only [hd,Option.bind_some] at h
    simp [hf.at_ t _ h]

theorem WL.yes {o:Oper} {j:Nat} {b:Bool} (hg:o.guard=some (j,b)) (hy:yl ops l j=some (.bool b))
    (h:WL g k ops ({ o with guard:=none } :: rest) l S):WL g k ops (o :: rest) l S:=fun a w hf hw=>by
  have h1:=h a w hf hw
  have hwant:Region.wanted o (yielded ops a.tmps)=true:=by simp [Region.wanted,hg,lF hf hy]
  have hwant':Region.wanted { o with guard:=none } (yielded ops a.tmps)=true:=by simp [Region.wanted]
  have hout : ¬ LetsOut (QK (At g k)):=by rintro ⟨a,w,h⟩; exact h
  simp only [wpList,hwant,hwant',if_true] at h1 ⊢
  rcases h1 with h1 | ⟨_,h1⟩
  · exact .inl h1
  · exact absurd h1 hout

theorem WL.no {o:Oper} {j d:Nat} {b:Bool} (hg:o.guard=some (j,b)) (hy:yl ops l j=some (.bool (!b))) (hd:o.dst=some d) (hn:Nat.blt d g.n=true)
    (h:WL g k ops rest ((d,undef) :: l) S):WL g k ops (o :: rest) l S:=fun a w hf hw=>by
  have hwant:Region.wanted o (yielded ops a.tmps)=false:=by simp [Region.wanted,hg,lF hf hy]
  simp only [wpList,hwant,hd]
  exact h _ _ (hf.put hn undef) hw

def WQ (g:G) (k:List Item) (ops:Array Oper) (rest:List Oper) (l:Env) (S:World→Prop):Prop:=
  ∀ a,Fr g.n l a→wpQuiet g.P ops S (fun a'=>∀ w',S w'→At g k a' w') rest a

theorem WT.draw {id:Nat} {os:List Oper} (hm:g.P.follows .mixedOrders=true) (hB:Region.lexB .any os.toArray=true) (hS:∀ w,S w→S w.drew)
    (h:WQ g k os.toArray os l S):WT g (.code (.region id os.toArray true) :: k) l S:=
  fun a w hf hw=>At.of_wp (wp_region_quiet (C:=S) hm hB (hS w hw) (h a hf))

theorem WQ.nil (h:WT g k l S):WQ g k ops [] l S:=fun a hf=>wpQuiet_nil fun w hw=>h a w hf hw

theorem WQ.q {o:Oper} {d:Nat} {v:Value} (hop:OpQ g.P o.op l S v) (hg:o.guard=none) (hd:o.dst=some d) (hn:Nat.blt d g.n=true)
    (h:WQ g k ops rest ((d,v) :: l) S):WQ g k ops (o :: rest) l S:=fun a hf=>by
  refine wpQuiet_step fun K hK=>?_
  simp only [Region.wanted,hg,if_true]
  refine ⟨v,fun w hw=>?_,?_⟩
  · unfold Oper.quietAt
    rw [hop g.n a w o rfl hf hw]
    exact ⟨rfl,rfl⟩
  · rw [hd]; exact hK _ (h _ (hf.put hn v))

theorem WQ.call {o:Oper} {d:Nat} {v:Value} (hop:OpC g.P o.op l S (fun _:Unit=>v) (fun _=>S)) (hg:o.guard=none) (hd:o.dst=some d) (hn:Nat.blt d g.n=true)
    (h:WQ g k ops rest ((d,v) :: l) S):WQ g k ops (o :: rest) l S:=fun a hf=>by
  refine wpQuiet_step fun K hK=>?_
  simp only [Region.wanted,hg,if_true]
  refine ⟨v,fun w hw=>?_,?_⟩
  · obtain ⟨f,args,hr,hc⟩:=hop g.n a w o rfl hf hw
    unfold Oper.quietAt
    rw [hr]
    exact ⟨rfl,hc.mono fun e w' ⟨_,h1,h2⟩=>⟨h1,h2⟩⟩
  · rw [hd]; exact hK _ (h _ (hf.put hn v))

theorem WQ.yes {o:Oper} {j:Nat} {b:Bool} (hg:o.guard=some (j,b)) (hy:yl ops l j=some (.bool b))
    (h:WQ g k ops ({ o with guard:=none } :: rest) l S):WQ g k ops (o :: rest) l S:=fun a hf=>by
  have h1:=h a hf
  have hwant:Region.wanted o (yielded ops a.tmps)=true:=by simp [Region.wanted,hg,lF hf hy]
  have hwant':Region.wanted { o with guard:=none } (yielded ops a.tmps)=true:=by simp [Region.wanted]
  simp only [wpQuiet,hwant,hwant',if_true] at h1 ⊢
  exact h1

theorem WQ.no {o:Oper} {j d:Nat} {b:Bool} (hg:o.guard=some (j,b)) (hy:yl ops l j=some (.bool (!b))) (hd:o.dst=some d) (hn:Nat.blt d g.n=true)
    (h:WQ g k ops rest ((d,undef) :: l) S):WQ g k ops (o :: rest) l S:=fun a hf=>by
  have hwant:Region.wanted o (yielded ops a.tmps)=false:=by simp [Region.wanted,hg,lF hf hy]
  simp only [wpQuiet,hwant,hd]
  exact h _ (hf.put hn undef)

def qV:Nat→List Value→Env
  | _,[]=>[]
  | i,v :: vs=>(i,v) :: qV (i+1) vs

theorem yr:∀ (vs:List Value) (i k:Nat) (v:Value),lk (qV i vs) k=some v→i≤k∧vs[k - i]?=some v
  | [],i,k,v,h=>by simp [qV,lk] at h
  | u :: vs,i,k,v,h=>by
    simp only [qV,lk] at h
    split at h
    · rename_i e; subst e; simp at h; simp [h]
    · rename_i e
      obtain ⟨h1,h2⟩:=yr vs (i+1) k v h
      refine ⟨by omega,?_⟩
      have:k - i=(k - (i+1))+1:=by omega
      rw [this]; simpa using h2

theorem enter {P:Program} {f n:Nat} {fn:Func} {c:Code} {vs:List Value} {w:World} {R:Ending→World→Prop} (hf:P.funcs[f]?=some fn) (hb:fn.body=some c) (hn:fn.ntmps=n)
    (hk:Nat.ble vs.length n=true) (hS:S w) (h:WT ⟨P,f,n,R⟩ [.code c] (qV 0 vs) S):Calls P f vs.toArray w R:=by
  intro cs
  have hk':vs.length≤n:=by simpa using hk
  let a:Act:={ tmps:=vs.toArray++Array.replicate (fn.ntmps - vs.toArray.size) undef,defers:=[] }
  have hfr:Fr n (qV 0 vs) a:=by
    refine ⟨by simp [a,hn]; omega,rfl,fun k v hkv=>?_⟩
    obtain ⟨_,h2⟩:=yr vs 0 k v hkv
    have hlt:k < vs.length:=(List.getElem?_eq_some_iff.1 (by simpa using h2)).1
    simp only [a]
    rw [Array.getElem?_append_left (by simpa using hlt)]
    simpa using h2
  let b:Frame:={ (default:Frame) with fn:=f,kind:=.normal }
  have henter:Frame.enter P f vs.toArray .normal=b.at a [.code c]:=by
    simp [Frame.enter,Frame.at,hf,hb,b,a]
  obtain ⟨e,w',fr,h1,h2,h3⟩:=h a w hfr hS b cs rfl rfl
  rw [← henter] at h2
  exact ⟨e,w',fr,h1,h2,h3⟩

end Go.Proofs.YtedmfnmbjglmbaaGreat.Eng
