/-
  The engine, part 1: a judgement over the rest of a function's run (a stack of items), an environment of slots as a short list, and one rule for each form of code.
  Nothing here names a program.
-/
import Derived.WalkKit
import Derived.Below
import Derived.Deep.Quiet
import Derived.Deep.MidRow
namespace Go.Proofs.YtedmfnmbjglmbaaGreat.Eng
set_option linter.defProp false
def fz:=@Option.bind_some
def fI:=@Bool.false_eq_true
def gb:=@List.mem_append
def gf:=@List.append_assoc
def gh:=@List.length_cons
def gi:=@List.length_append
def gj:=@List.getElem?_eq_getElem
def gk:=@List.length_nil
def gm:=@Bool.and_eq_true
def gx:=@List.getElem?_eq_some_iff
def gI:=@List.drop_eq_getElem_cons
def ha:=@List.nil_append
def hn:=@Nat.le_refl
def ho:=@Nat.zero_add
def hz:=@List.drop_of_length_le
def hA:=@Bool.not_true
def hB:=@Nat.succ_mul
def hC:=@List.mem_map
def hE:=@List.mem_cons
def hG:=@List.getElem_mem
def hI:=@Bool.not_false
def hK:=@List.cons_append
def hL:=@Nat.mul_le_mul_right
def hN:=@List.map_cons
def hQ:=@List.getElem?_take
def hR:=@List.drop_zero
def hS:=@List.getD_eq_getElem?_getD
def hV:=@Bool.true_and
def hW:=@Int.toNat_natCast
def hY:=@List.mem_singleton
def hZ:=@List.getElem?_set_ne
def ix:=@List.mem_flatMap
def j1:=@List.flatten_append
def j2:=@List.append_nil
def j3:=@List.getElem?_set_self
def j4:=@Nat.le_trans
def j5:=@List.filter_cons
def j8:=@List.getElem?_drop
def jf:=@List.mem_of_getElem?
def jt:=@Nat.zero_le
def k0:=@Nat.add_zero
def ks:=@List.flatMap_cons
def l0:=@List.pairwise_append
def l3:=@List.take_append_drop
def l4:=@List.mem_flatten
def mx:=@List.getElem?_append_right
def my:=@List.length_take
def n0:=@List.all_cons
def nn:=@List.nodup_append
def nt:=@List.mem_filter
def oi:=@Int.natCast_zero
def oj:=@List.getElem?_append_left
def p1:=@List.pairwise_cons
def p4:=@List.all_eq_true
def p5:=@List.getElem?_map
def p7:=@List.ext_getElem?
def px:=@List.length_set
def py:=@List.length_filter_le
def q0:=@Bool.false_and
def q2:=@List.map_append
def q4:=@Nat.lt_of_lt_of_le
def q6:=@List.perm_append_comm
def q7:=@List.length_map
def qa:=@List.length_eq_zero_iff
def ql:=@List.flatten_cons
def qo:=@List.eq_nil_of_length_eq_zero
def qs:=@List.foldl_cons
def qu:=@List.set_append_right
def rr:=@Bool.decide_and
def rs:=@Nat.sub_self
def rv:=@List.map_nil
def ry:=@List.perm_middle
def sX:=@List.getElem?_eq_none
def sY:=@Bool.eq_iff_iff
def ti:=@Bool.and_true
def u0:=@List.foldl_append
def vi:=@Bool.or_false
def vj:=@Option.map_eq_some_iff
def vx:=@List.length_pos_of_mem
def vy:=@Int.ofNat_lt
def w2:=@List.mem_of_find?_eq_some
def w3:=@Nat.add_sub_cancel
def x0:=@List.getElem_of_mem
def y1:=@List.getElem?_replicate
def y3:=@Option.map_some
def zx:=@Bool.false_or
def Cl:=@Nat.add_comm
def D0:=@List.getElem?_set
def F0:=@List.getElem?_cons_zero
def G0:=@Nat.add_assoc
def Gs:=@Nat.zero_mul
def K1:=@Nat.ble_eq_true_of_le
def K2:=@List.length_drop
def K3:=@List.findIdx?_eq_some_iff_getElem
def K4:=@List.any_eq_true
def K5:=@Bool.and_false
def L2:=@Bool.and_comm
def L6:=@List.find?_cons
def LL:=@List.set_cons_zero
def NT:=@List.map_flatMap
def NU:=@List.take_succ_cons
def NV:=@Nat.mul_le_mul
def NW:=@List.take_of_length_le
def NX:=@List.getElem?_cons_succ
def NY:=@List.find?_eq_none
def NZ:=@List.countP_cons
def O0:=@Nat.add_sub_cancel_left
def O1:=@Nat.pow_le_pow_right
def O2:=@Int.eq_ofNat_of_zero_le
def O3:=@List.mem_cons_of_mem
def O4:=@Nat.ne_of_beq_eq_false
def O5:=@List.findIdx?_eq_none_iff
def O6:=@List.singleton_append
def O7:=@List.getElem_replicate
def O8:=@List.replicate_succ'
def O9:=@List.take_succ_eq_append_getElem
def Oa:=@List.eq_nil_or_concat
def Ob:=@List.concat_eq_append
def Oc:=@List.getElem?_eq_none_iff
def Od:=@List.pairwise_iff_getElem
def Oe:=@List.dropLast_concat_getLast
def Of:=@List.length_eq_one_iff
def Og:=@List.mem_or_eq_of_mem_set
theorem NQ {p : Prop} (h : p := by kernel_rfl) : p := h
theorem NR {p : Prop} (h : p := by omega) : p := h
theorem NS {p : Prop} (h : p := by simp) : p := h
theorem J {α : Sort _} {a : α} : a = a := rfl
open Go.RowKit (Below)
set_option linter.unusedVariables false
set_option linter.unusedSimpArgs false

abbrev Env:=List (Nat × Value)

def lk:Env→Nat→Option Value
  | [],_=>none
  | (k,v) :: r,n=>if k=n then some v else lk r n

def opv (l:Env):Operand→Option Value
  | .tmp k=>lk l k
  | .const v=>some v
  | .global g=>some (.pointer (some ⟨g,0,none⟩))
  | .func f=>some (.func (.func f) #[] #[])

structure Fr (n:Nat) (l:Env) (a:Act):Prop where
  size:a.tmps.size=n
  defers:a.defers=[]
  at_:∀ k v,lk l k=some v→a.tmps[k]?=some v

theorem Fr.eval {n:Nat} {l:Env} {a:Act} (h:Fr n l a) {x:Operand} {v:Value} (b:opv l x=some v):a.eval x=v:=by
  cases x with
  | tmp k=>
    have:=h.at_ k v b
    simp[Act.eval,this]
  | const c=>simpa[opv,Act.eval] using b
  | global g=>simpa[opv,Act.eval] using b
  | func f=>simpa[opv,Act.eval] using b

theorem Fr.put {n:Nat} {l:Env} {a:Act} (h:Fr n l a) {d:Nat} (b:Nat.blt d n=true) (v:Value):Fr n ((d,v) :: l) (a.put (some d) v):=by
  have c:d < n:=by simpa using b
  refine⟨by simp[Act.put,h.size],h.defers,fun k u hk=>?_⟩
  simp only[lk] at hk
  simp only[Act.put,Array.getElem?_setIfInBounds,h.size]
  split at hk
  · rename_i e;subst e;simp at hk;subst hk;simp[c]
  · rename_i e;rw[if_neg e];exact h.at_ k u hk

theorem Fr.put_none {n:Nat} {l:Env} {a:Act} (h:Fr n l a) (v:Value):Fr n l (a.put none v):=h

theorem Fr.mono {n:Nat} {l l':Env} {a:Act} (h:Fr n l a) (b:∀ k v,lk l' k=some v→lk l k=some v):Fr n l' a:=
  ⟨h.size,h.defers,fun k v hk=>h.at_ k v (b k v hk)⟩

def Sub (l:Env):Env→Prop
  | []=>True
  | (k,v) :: r=>lk l k=some v∧Sub l r

theorem Sub.lk {l:Env}:∀ {l':Env},Sub l l'→∀ k v,lk l' k=some v→Eng.lk l k=some v
  | [],_,k,v,h=>by simp[Eng.lk] at h
  | (j,u) :: r,a,k,v,h=>by
    simp only[Eng.lk] at h
    split at h
    · rename_i e;subst e;simp at h;subst h;exact a.1
    · exact Sub.lk a.2 k v h

structure G where
  P:Program
  f:FuncId
  n:Nat
  R:Ending→World→Prop

def At (g:G) (k:List Item) (a:Act) (w:World):Prop:=
  ∀ (b:Frame) (cs:List Frame),b.fn=g.f→b.kind = .normal →
    ∃ e w' c,g.R e w'∧Comes g.P (lone (b.at a k) cs w) (lone c cs w') e∧c.fn=g.f∧c.leaving g.P w' e

def WT (g:G) (k:List Item) (l:Env) (S:World→Prop):Prop:=∀ a w,Fr g.n l a→S w→At g k a w

theorem At.step {g:G} {k c:List Item} {a:Act} {w:World} (d:∀ (b:Frame) (cs:List Frame),Steps g.P (lone (b.at a k) cs w) (lone (b.at a c) cs w))
    (h:At g c a w):At g k a w:=fun b cs f hk=>by
  obtain⟨e,w',i,h1,j,l⟩:=h b cs f hk
  exact⟨e,w',i,h1,Comes.of_steps (d b cs) j,l⟩

variable {g:G} {k:List Item} {l:Env} {S:World→Prop}

theorem WT.mono {l':Env} {S':World→Prop} (b:Sub l l') (c:∀ w,S w→S' w) (h:WT g k l' S'):WT g k l S:=
  fun a w d hw=>h a w (d.mono b.lk) (c w hw)

theorem WT.keep (l':Env) (a:Sub l l') (h:WT g k l' S):WT g k l S:=WT.mono a (fun _ h=>h) h

theorem WT.seq {x y:Code} (h:WT g (.code x :: .code y :: k) l S):WT g (.code (.seq x y) :: k) l S:=
  fun a w b hw=>At.step (fun _ _=>.one step_seq) (h a w b hw)

theorem WT.skip (h:WT g k l S):WT g (.code .skip :: k) l S:=
  fun a w b hw=>At.step (fun _ _=>.one step_skip) (h a w b hw)

theorem WT.block {id:Nat} {c:Code} (h:WT g (.code c :: .inBlock id :: k) l S):WT g (.code (.block id c) :: k) l S:=
  fun a w b hw=>At.step (fun _ _=>.one step_block) (h a w b hw)

theorem WT.inBlock {id:Nat} (h:WT g k l S):WT g (.inBlock id :: k) l S:=
  fun a w b hw=>At.step (fun _ _=>.one step_inBlock) (h a w b hw)

theorem WT.loop {c:Code} (h:WT g (.code c :: .inLoop c :: k) l S):WT g (.code (.loop c) :: k) l S:=
  fun a w b hw=>At.step (fun _ _=>.one step_loop) (h a w b hw)

theorem WT.inLoop {c:Code} (h:WT g (.code c :: .inLoop c :: k) l S):WT g (.inLoop c :: k) l S:=
  fun a w b hw=>At.step (fun _ _=>.one step_inLoop) (h a w b hw)

theorem WT.exit {id:Nat} {b:List Item} (hk:exitTo id k=some b) (h:WT g b l S):WT g (.code (.exit id) :: k) l S:=
  fun a w c hw=>At.step (fun _ _=>.one (step_exit hk)) (h a w c hw)

theorem WT.cond {c:Operand} {x y:Code} {t:Bool} (d:opv l c=some (.bool t)) (h1:t=true→WT g (.code x :: k) l S) (e:t=false→WT g (.code y :: k) l S) :
    WT g (.code (.cond c x y) :: k) l S:=fun a w b hw=>by
  refine At.step (fun _ _=>.one (step_cond (b.eval d))) ?_
  cases t
  · exact e rfl a w b hw
  · exact h1 rfl a w b hw

def az (P:Program) (b:Array ResultVar) (l:Env) (S:World→Prop) (v:Value):Prop:=
  ∀ (fn:Func) (n:Nat) (a:Act) (w:World),fn.results=b→Fr n l a→S w→(results fn a.tmps).run P w = .ok v w

theorem At.ret {a:Act} {w:World} {fn:Func} {v:Value} (d:g.P.funcs[g.f]?=some fn) (e:a.defers=[]) (f:(results fn a.tmps).run g.P w = .ok v w) (h:g.R (.returned v) w) :
    At g (.code .ret :: k) a w:=fun b cs c hk=>by
  refine⟨.returned v,w,_,h,.one step_ret,c,rfl,e,hk,fn,?_,f⟩
  show g.P.funcs[b.fn]?=some fn
  rw[c];exact d

theorem At.fin {a:Act} {w:World} {fn:Func} {v:Value} (d:g.P.funcs[g.f]?=some fn) (e:a.defers=[]) (f:(results fn a.tmps).run g.P w = .ok v w) (h:g.R (.returned v) w) :
    At g [] a w:=fun b cs c hk=>by
  refine⟨.returned v,w,_,h,.one step_end,c,rfl,e,hk,fn,?_,f⟩
  show g.P.funcs[b.fn]?=some fn
  rw[c];exact d

theorem WT.ret {fn:Func} {v:Value} (c:g.P.funcs[g.f]?=some fn) (d:az g.P fn.results l S v) (e:∀ w,S w→g.R (.returned v) w):WT g (.code .ret :: k) l S:=
  fun a w b hw=>At.ret c b.defers (d fn g.n a w rfl b hw) (e w hw)

theorem WT.fin {fn:Func} {v:Value} (c:g.P.funcs[g.f]?=some fn) (d:az g.P fn.results l S v) (e:∀ w,S w→g.R (.returned v) w):WT g [] l S:=
  fun a w b hw=>At.fin c b.defers (d fn g.n a w rfl b hw) (e w hw)

theorem az.none {P:Program}:az P #[] l S (.tuple #[]):=fun fn n a w b c hw=>results_none b a.tmps P w
theorem az.tmp {P:Program} {t:Tmp} {v:Value} (h:lk l t=some v):az P #[.tmp t] l S v:=fun fn n a w b c hw=>by
  rw[results_tmp b];simp[c.at_ t v h]
def xe (P:Program) (r:ResultVar) (l:Env) (S:World→Prop) (v:Value):Prop:=
  match r with
  | .tmp t=>lk l t=some v
  | .cell p t=>∃ a,lk l p=some (.pointer (some a))∧∀ w,S w→(loadVar t a).run P w = .ok v w

theorem az.one {P:Program} {r:ResultVar} {v:Value} (h:xe P r l S v):az P #[r] l S v:=fun fn n a w b c hw=>by
  cases r with
  | tmp t=>rw[results_tmp b];simp[c.at_ t v h]
  | cell p t=>
    obtain⟨e,h1,d⟩:=h
    simp[results,b,c.at_ p _ h1,asAddr,d w hw]
theorem az.two {P:Program} {r c:ResultVar} {v d:Value} (h:xe P r l S v) (e:xe P c l S d):az P #[r,c] l S (.tuple #[v,d]):=fun fn n a w f b hw=>by
  cases r with
  | tmp t=>
    cases c with
    | tmp u=>rw[results_tmp2 f];simp[b.at_ t v h,b.at_ u d e]
    | cell p u=>
      obtain⟨i,h1,g⟩:=e
      simp[results,f,b.at_ p _ h1,asAddr,g w hw,b.at_ t v h]
  | cell q t=>
    obtain⟨i,h1,g⟩:=h
    cases c with
    | tmp u=>simp[results,f,b.at_ q _ h1,asAddr,g w hw,b.at_ u d e]
    | cell p u=>
      obtain⟨m,j,k⟩:=e
      simp[results,f,b.at_ q _ h1,asAddr,g w hw,b.at_ p _ j,k w hw]

def QK (K:Act→World→Prop):Exit→Act→World→Prop
  | .normal,a,w=>K a w
  | _,_,_=>False

def WL (g:G) (k:List Item) (ops:Array Oper) (rest:List Oper) (l:Env) (S:World→Prop):Prop:=
  ∀ a w,Fr g.n l a→S w→wpList g.P ops (QK (At g k)) rest a w

theorem At.of_wp {c:Code} {a:Act} {w:World} (h:c.wp g.P (QK (At g k)) a w):At g (.code c :: k) a w:=fun b cs f hk=>by
  obtain⟨e,o,w',d,i⟩:=h b k cs
  cases e with
  | normal=>
    obtain⟨e,j,l,h1,m,n⟩:=d b cs f hk
    exact⟨e,j,l,h1,Comes.of_steps i m,n⟩
  | _=>exact d.elim

theorem WT.region {id:Nat} {os:List Oper} (h:WL g k os.toArray os l S):WT g (.code (.region id os.toArray false) :: k) l S:=
  fun a w b hw=>At.of_wp (wp_region_lit (h a w b hw))

variable {ops:Array Oper} {rest:List Oper}

theorem WL.nil (h:WT g k l S):WL g k ops [] l S:=fun a w b hw=>wpList_nil (h a w b hw)

theorem WL.mono {l':Env} {S':World→Prop} (b:Sub l l') (c:∀ w,S w→S' w) (h:WL g k ops rest l' S'):WL g k ops rest l S:=
  fun a w d hw=>h a w (d.mono b.lk) (c w hw)

def OpQ (P:Program) (op:Op) (l:Env) (S:World→Prop) (v:Value):Prop:=
  ∀ (n:Nat) (a:Act) (w:World) (o:Oper),o.op=op→Fr n l a→S w→(execOp a.eval o).run P w = .ok (.value v) w

theorem WL.q {o:Oper} {d:Nat} {v:Value} (c:OpQ g.P o.op l S v) (e:o.guard=none) (f:o.dst=some d) (i:Nat.blt d g.n=true)
    (h:WL g k ops rest ((d,v) :: l) S):WL g k ops (o :: rest) l S:=fun a w b hw=>
  wpList_plain e fun K j=>by
    unfold Oper.wp
    rw[c g.n a w o rfl b hw,Oper.upon_value,f]
    exact j _ _ (h _ _ (b.put i v) hw)

theorem WL.eff {o:Oper} {d:Nat} {α:Type} {v:α→Value} {S':α→World→Prop} (c:∀ (a:Act) (w:World),Fr g.n l a→S w→∃ (x:α) (w':World),(execOp a.eval o).run g.P w = .ok (.value (v x)) w'∧S' x w')
    (e:o.guard=none) (f:o.dst=some d) (i:Nat.blt d g.n=true)
    (h:∀ x,WL g k ops rest ((d,v x) :: l) (S' x)):WL g k ops (o :: rest) l S:=fun a w b hw=>
  wpList_plain e fun K j=>by
    obtain⟨x,w',m,n⟩:=c a w b hw
    unfold Oper.wp
    rw[m,Oper.upon_value,f]
    exact j _ _ (h x _ _ (b.put i (v x)) n)

theorem WL.effU {o:Oper} {α:Type} {S':α→World→Prop} (c:∀ (a:Act) (w:World),Fr g.n l a→S w→∃ (x:α) (w':World),(execOp a.eval o).run g.P w = .ok .skip w'∧S' x w')
    (d:o.guard=none) (e:o.dst=none)
    (h:∀ x,WL g k ops rest l (S' x)):WL g k ops (o :: rest) l S:=fun a w b hw=>
  wpList_plain d fun K f=>by
    obtain⟨x,w',i,j⟩:=c a w b hw
    unfold Oper.wp
    rw[i,Oper.upon_skip,e]
    exact f _ _ (h x _ _ (b.put_none undef) j)

def OpC (P:Program) (op:Op) (l:Env) (S:World→Prop) {α:Type} (v:α→Value) (S':α→World→Prop):Prop:=
  ∀ (n:Nat) (a:Act) (w:World) (o:Oper),o.op=op→Fr n l a→S w →
    ∃ f args,(execOp a.eval o).run P w = .ok (.enter f args) w∧Calls P f args w fun e w'=>∃ x,e = .returned (v x)∧S' x w'

theorem WL.call {o:Oper} {d:Nat} {α:Type} {v:α→Value} {S':α→World→Prop} (c:OpC g.P o.op l S v S')
    (i:o.guard=none) (j:o.dst=some d) (m:Nat.blt d g.n=true)
    (h:∀ x,WL g k ops rest ((d,v x) :: l) (S' x)):WL g k ops (o :: rest) l S:=fun a w b hw=>
  wpList_plain i fun K n=>by
    obtain⟨f,args,p,q⟩:=c g.n a w o rfl b hw
    unfold Oper.wp
    rw[p,Oper.upon_enter,j]
    refine q.mono ?_
    rintro e w' ⟨x,rfl,r⟩
    exact n _ _ (h x _ _ (b.put m (v x)) r)

def yl (ops:Array Oper) (l:Env) (j:Nat):Option Value:=((ops[j]?).bind (·.dst)).bind (lk l)

theorem nr {n:Nat} {a:Act} (d:Fr n l a) {j:Nat} {b:Bool} (h:yl ops l j=some (.bool b)):yielded ops a.tmps j=some b:=by
  unfold yl at h
  unfold yielded
  cases c:(ops[j]?).bind (·.dst) with
  | none=>simp[c] at h
  | some t=>
    simp only[c,Option.bind_some] at h
    simp[d.at_ t _ h]

theorem WL.yes {o:Oper} {j:Nat} {b:Bool} (d:o.guard=some (j,b)) (e:yl ops l j=some (.bool b))
    (h:WL g k ops ({ o with guard:=none } :: rest) l S):WL g k ops (o :: rest) l S:=fun a w c hw=>by
  have h1:=h a w c hw
  have f:Region.wanted o (yielded ops a.tmps)=true:=by simp[Region.wanted,d,nr c e]
  have i:Region.wanted { o with guard:=none } (yielded ops a.tmps)=true:=by simp[Region.wanted]
  have m : ¬ LetsOut (QK (At g k)):=by rintro⟨a,w,h⟩;exact h
  simp only[wpList,f,i,if_true] at h1 ⊢
  rcases h1 with h1 | ⟨_,h1⟩
  · exact .inl h1
  · exact absurd h1 m

theorem WL.no {o:Oper} {j d:Nat} {b:Bool} (e:o.guard=some (j,b)) (f:yl ops l j=some (.bool (!b))) (i:o.dst=some d) (m:Nat.blt d g.n=true)
    (h:WL g k ops rest ((d,undef) :: l) S):WL g k ops (o :: rest) l S:=fun a w c hw=>by
  have n:Region.wanted o (yielded ops a.tmps)=false:=by simp[Region.wanted,e,nr c f]
  simp only[wpList,n,i]
  exact h _ _ (c.put m undef) hw

def WQ (g:G) (k:List Item) (ops:Array Oper) (rest:List Oper) (l:Env) (S:World→Prop):Prop:=
  ∀ a,Fr g.n l a→wpQuiet g.P ops S (fun b=>∀ w',S w'→At g k b w') rest a

theorem WT.draw {id:Nat} {os:List Oper} (hm:g.P.follows .mixedOrders=true) (b:Region.lexB .any os.toArray=true) (c:∀ w,S w→S w.drew)
    (h:WQ g k os.toArray os l S):WT g (.code (.region id os.toArray true) :: k) l S:=
  fun a w d hw=>At.of_wp (wp_region_quiet (C:=S) hm b (c w hw) (h a d))

theorem WQ.nil (h:WT g k l S):WQ g k ops [] l S:=fun a b=>wpQuiet_nil fun w hw=>h a w b hw

theorem WQ.q {o:Oper} {d:Nat} {v:Value} (c:OpQ g.P o.op l S v) (e:o.guard=none) (f:o.dst=some d) (i:Nat.blt d g.n=true)
    (h:WQ g k ops rest ((d,v) :: l) S):WQ g k ops (o :: rest) l S:=fun a b=>by
  refine wpQuiet_step fun K j=>?_
  simp only[Region.wanted,e,if_true]
  refine⟨v,fun w hw=>?_,?_⟩
  · unfold Oper.quietAt
    rw[c g.n a w o rfl b hw]
    exact⟨rfl,rfl⟩
  · rw[f];exact j _ (h _ (b.put i v))

theorem WQ.call {o:Oper} {d:Nat} {v:Value} (c:OpC g.P o.op l S (fun _:Unit=>v) (fun _=>S)) (i:o.guard=none) (j:o.dst=some d) (m:Nat.blt d g.n=true)
    (h:WQ g k ops rest ((d,v) :: l) S):WQ g k ops (o :: rest) l S:=fun a b=>by
  refine wpQuiet_step fun K n=>?_
  simp only[Region.wanted,i,if_true]
  refine⟨v,fun w hw=>?_,?_⟩
  · obtain⟨f,args,p,q⟩:=c g.n a w o rfl b hw
    unfold Oper.quietAt
    rw[p]
    exact⟨rfl,q.mono fun e w' ⟨_,h1,r⟩=>⟨h1,r⟩⟩
  · rw[j];exact n _ (h _ (b.put m v))

theorem WQ.yes {o:Oper} {j:Nat} {b:Bool} (d:o.guard=some (j,b)) (e:yl ops l j=some (.bool b))
    (h:WQ g k ops ({ o with guard:=none } :: rest) l S):WQ g k ops (o :: rest) l S:=fun a c=>by
  have h1:=h a c
  have f:Region.wanted o (yielded ops a.tmps)=true:=by simp[Region.wanted,d,nr c e]
  have i:Region.wanted { o with guard:=none } (yielded ops a.tmps)=true:=by simp[Region.wanted]
  simp only[wpQuiet,f,i,if_true] at h1 ⊢
  exact h1

theorem WQ.no {o:Oper} {j d:Nat} {b:Bool} (e:o.guard=some (j,b)) (f:yl ops l j=some (.bool (!b))) (i:o.dst=some d) (m:Nat.blt d g.n=true)
    (h:WQ g k ops rest ((d,undef) :: l) S):WQ g k ops (o :: rest) l S:=fun a c=>by
  have n:Region.wanted o (yielded ops a.tmps)=false:=by simp[Region.wanted,e,nr c f]
  simp only[wpQuiet,n,i]
  exact h _ (c.put m undef)

def sC:Nat→List Value→Env
  | _,[]=>[]
  | i,v :: vs=>(i,v) :: sC (i+1) vs

theorem Aa:∀ (vs:List Value) (i k:Nat) (v:Value),lk (sC i vs) k=some v→i≤k∧vs[k - i]?=some v
  | [],i,k,v,h=>by simp[sC,lk] at h
  | u :: vs,i,k,v,h=>by
    simp only[sC,lk] at h
    split at h
    · rename_i e;subst e;simp at h;simp[h]
    · rename_i e
      obtain⟨h1,a⟩:=Aa vs (i+1) k v h
      refine⟨NR,?_⟩
      have:k - i=(k - (i+1))+1:=by omega
      rw[this];simpa using a

theorem enter {P:Program} {f n:Nat} {fn:Func} {c:Code} {vs:List Value} {w:World} {R:Ending→World→Prop} (g:P.funcs[f]?=some fn) (i:fn.body=some c) (j:fn.ntmps=n)
    (hk:Nat.ble vs.length n=true) (l:S w) (h:WT ⟨P,f,n,R⟩ [.code c] (sC 0 vs) S):Calls P f vs.toArray w R:=by
  intro cs
  have t:vs.length≤n:=by simpa using hk
  let a:Act:={ tmps:=vs.toArray++Array.replicate (fn.ntmps - vs.toArray.size) undef,defers:=[] }
  have m:Fr n (sC 0 vs) a:=by
    refine⟨by simp[a,j];omega,rfl,fun k v o=>?_⟩
    obtain⟨_,d⟩:=Aa vs 0 k v o
    have p:k < vs.length:=(List.getElem?_eq_some_iff.1 (by simpa using d)).1
    simp only[a]
    rw[Array.getElem?_append_left (by simpa using p)]
    simpa using d
  let b:Frame:={ (default:Frame) with fn:=f,kind:=.normal }
  have q:Frame.enter P f vs.toArray .normal=b.at a [.code c]:=by
    simp[Frame.enter,Frame.at,g,i,b,a]
  obtain⟨e,w',r,h1,d,s⟩:=h a w m l b cs rfl rfl
  rw[← q] at d
  exact⟨e,w',r,h1,d,s⟩

end Go.Proofs.YtedmfnmbjglmbaaGreat.Eng
