/-
  The engine, part C: closed facts and the operations that leave the world.
  Nothing here names a program.
-/
import Derived.Test.YtedmfnmbjglmbaaGreatEB
import Derived.Laws.StructEq
import Derived.WalkSpells
namespace Go.Proofs.YtedmfnmbjglmbaaGreat.Eng
open Go.RowKit (Below wrap64)
set_option linter.unusedVariables false
set_option linter.unusedSimpArgs false

def T1 (P:Program) (t:TypeId):Bool:=match P.underlying t with | some (.struct _)=>false | some (.array _ _)=>false | some _=>true | none=>false
def Tn (P:Program) (t n:Nat):Bool:=match P.underlying t with | some (.struct _)=>(P.info? t).map (·.size) == some n | _=>false
def Fld (P:Program) (t i off:Nat):Bool:=
  match P.underlying t with
  | some (.struct a)=>match a[i]? with
    | some f=>f.offset == off && match P.info? f.type with | some i=>Nat.blt 0 i.size | none=>false
    | none=>false
  | _=>false
def Sl (P:Program) (t e sz:Nat):Bool:=match P.underlying t with | some (.slice a)=>a == e && (P.info? e).map (·.size) == some sz | _=>false
def Str (P:Program) (t:Nat):Bool:=match P.underlying t with | some .string=>true | _=>false
def Fun (P:Program) (f:Nat):Bool:=match P.funcs[f]? with | some fn=>fn.body.isSome && !(fn.name == "runtime.NumGoroutine") | none=>false
def Sz (P:Program) (t n:Nat):Bool:=(P.info? t).map (·.size) == some n

section quiet
variable {P:Program} {l:Env} {S:World→Prop}

theorem iZ {x:Operand} {v:Value} (h:opv l x=some v):OpQ P (.move x) l S v:=fun n a w o b c hw=>by
  unfold execOp;simp only[b,c.eval h];rfl
theorem HN {x:Operand} {v:Value} (h:opv l x=some v):OpQ P (.assign x) l S v:=fun n a w o b c hw=>by
  unfold execOp;simp only[b,c.eval h];rfl
theorem Av {c x y:Operand} {u:Value} (d:opv l c=some (.bool true)) (e:opv l x=some u):OpQ P (.pick c x y) l S u:=fun n a w o f b hw=>by
  unfold execOp;simp only[f,b.eval d,b.eval e];rfl
theorem rQ {c x y:Operand} {u:Value} (d:opv l c=some (.bool false)) (e:opv l y=some u):OpQ P (.pick c x y) l S u:=fun n a w o f b hw=>by
  unfold execOp;simp only[f,b.eval d,b.eval e];rfl

theorem sc {op:BinOp} {x y:Operand} {t u:TypeId} {k:IntKind} {i j:Int} {v:Value} (c:opv l x=some (.int k i)) (d:opv l y=some (.int k j))
    (e:∀ w,(do eqGuard op t x y (.int k i) (.int k j);binOp op t (.int k i) (.int k j):Sem Value).run P w = .ok v w):OpQ P (.binOp op t x y u) l S v:=fun n a w o f b hw=>by
  unfold execOp;simp only[f,b.eval c,b.eval d]
  simp only[Sem.run_bind,e w];rfl

theorem MF {x y:Operand} {t u:TypeId} {k:IntKind} {i j:Int} (a:opv l x=some (.int k i)) (b:opv l y=some (.int k j)):OpQ P (.binOp .lss t x y u) l S (.bool (decide (i < j))):=
  sc a b fun w=>by simp[eqGuard,binOp,Op.intCmp]
theorem Mq {x y:Operand} {t u:TypeId} {k:IntKind} {i j:Int} (a:opv l x=some (.int k i)) (b:opv l y=some (.int k j)):OpQ P (.binOp .leq t x y u) l S (.bool (decide (i≤j))):=
  sc a b fun w=>by simp[eqGuard,binOp,Op.intCmp]
theorem Mw {x y:Operand} {t u:TypeId} {k:IntKind} {i j:Int} (a:opv l x=some (.int k i)) (b:opv l y=some (.int k j)):OpQ P (.binOp .gtr t x y u) l S (.bool (decide (j < i))):=
  sc a b fun w=>by simp[eqGuard,binOp,Op.intCmp]
theorem K7 {x y:Operand} {t u:TypeId} {k:IntKind} {i j:Int} (a:opv l x=some (.int k i)) (b:opv l y=some (.int k j)):OpQ P (.binOp .geq t x y u) l S (.bool (decide (j≤i))):=
  sc a b fun w=>by simp[eqGuard,binOp,Op.intCmp]
theorem Mt {x y:Operand} {t u:TypeId} {k:IntKind} {i j:Int} (a:opv l x=some (.int k i)) (b:opv l y=some (.int k j)):OpQ P (.binOp .eql t x y u) l S (.bool (decide (i=j))):=
  sc a b fun w=>by simp[eqGuard,binOp,Op.intCmp];rfl
theorem Mj {x y:Operand} {t u:TypeId} {k:IntKind} {i j:Int} (a:opv l x=some (.int k i)) (b:opv l y=some (.int k j)):OpQ P (.binOp .neq t x y u) l S (.bool (!decide (i=j))):=
  sc a b fun w=>by simp[eqGuard,binOp,Op.intCmp];rfl

theorem Ke {x y:Operand} {t u:TypeId} {k:IntKind} {i j:Int} (a:opv l x=some (.int k i)) (b:opv l y=some (.int k j)):OpQ P (.binOp .add t x y u) l S (.int k (k.wrap (i+j))):=
  sc a b fun w=>by simp[eqGuard,binOp,Op.intArith]
theorem EO {x y:Operand} {t u:TypeId} {k:IntKind} {i j:Int} (a:opv l x=some (.int k i)) (b:opv l y=some (.int k j)):OpQ P (.binOp .sub t x y u) l S (.int k (k.wrap (i - j))):=
  sc a b fun w=>by simp[eqGuard,binOp,Op.intArith]
theorem MR {x y:Operand} {t u:TypeId} {k:IntKind} {i j:Int} (a:opv l x=some (.int k i)) (b:opv l y=some (.int k j)):OpQ P (.binOp .mul t x y u) l S (.int k (k.wrap (i*j))):=
  sc a b fun w=>by simp[eqGuard,binOp,Op.intArith]

theorem LY {t:TypeId} {x:Operand} {b:Bool} (c:opv l x=some (.bool b)):OpQ P (.unOp .not t x) l S (.bool (!b)):=fun n a w o d e hw=>by
  unfold execOp;simp only[d,e.eval c];rfl
def seq (x y:ByteArray):Bool:=x.toList == y.toList

theorem MT {x y:Operand} {t u:TypeId} {i j:ByteArray} (c:opv l x=some (.string i)) (d:opv l y=some (.string j)):OpQ P (.binOp .eql t x y u) l S (.bool (seq i j)):=fun n a w o e b hw=>by
  unfold execOp;simp only[e,b.eval c,b.eval d]
  simp[eqGuard,binOp,Op.stringOp,seq]
theorem M8 {x y:Operand} {t u:TypeId} {i j:ByteArray} (c:opv l x=some (.string i)) (d:opv l y=some (.string j)):OpQ P (.binOp .neq t x y u) l S (.bool (!seq i j)):=fun n a w o e b hw=>by
  unfold execOp;simp only[e,b.eval c,b.eval d]
  simp[eqGuard,binOp,Op.stringOp,seq]

theorem wv {t:TypeId} {args:Array Operand} {x:Operand} {s:ByteArray} (b:Str P t=true) (c:args = #[x]) (d:opv l x=some (.string s)) :
    OpQ P (.call ⟨.builtin .len,args,#[t]⟩) l S (.int .i64 s.size):=fun n a w o e f hw=>by
  have hu:P.underlying t=some .string:=by unfold Str at b;split at b <;> simp_all
  unfold execOp;simp only[e,c,resolve]
  simp[invoke,builtin,Builtin.len_,f.eval d,Sem.run_bind,run_underlying hu,goInt]

theorem MO {t e sz:TypeId} {args:Array Operand} {x:Operand} {p:Option Addr} {m c:Nat} (b:Sl P t e sz=true) (d:args = #[x]) (f:opv l x=some (.slice p m c)) :
    OpQ P (.call ⟨.builtin .len,args,#[t]⟩) l S (.int .i64 m):=fun n a w o g h hw=>by
  have hu:∃ e,P.underlying t=some (.slice e):=by unfold Sl at b;split at b <;> simp_all
  obtain⟨i,hu⟩:=hu
  unfold execOp;simp only[g,d,resolve]
  simp[invoke,builtin,Builtin.len_,h.eval f,Sem.run_bind,run_underlying hu,goInt]

theorem mK {α:Type} {R:Hp→List Nat→List Value→α→Prop} {sz:Nat} {a:Hp} {F:List Nat} {v:Value} {xs:List α} {t e b:TypeId} {args:Array Operand} {x:Operand}
    (d:Sl P t e b=true) (f:args = #[x]) (g:opv l x=some v) (h:RSl R sz a F v xs):OpQ P (.call ⟨.builtin .len,args,#[t]⟩) l S (.int .i64 xs.length):=by
  obtain⟨p,c,hp,_⟩:=h.form
  exact MO d f (by rw[g,hp])

theorem ax {t i off:Nat} {x:Operand} {b o:Nat} (c:Fld P t i off=true) (e:opv l x=some (.pointer (some ⟨b,o,none⟩))):OpQ P (.fieldAddr t x i) l S (.pointer (some ⟨b,o+off,none⟩)):=fun n a w op g h hw=>by
  unfold Fld at c
  split at c
  · rename_i q hu
    split at c
    · rename_i f j
      simp only[gm,beq_iff_eq] at c
      obtain⟨h1,d⟩:=c
      split at d
      · rename_i k m
        have p:k.size≠0:=by simp at d;omega
        unfold execOp;simp only[g,h.eval e]
        simp[Instr.fieldAt,Sem.run_bind,run_underlying hu,j,Instr.sureAddr,fieldPlace,sizeOf,typeInfo,m,p,← h1,Addr.add_mid]
      · cases d
    · cases c
  · cases c

theorem an {α:Type} {R:Hp→List Nat→List Value→α→Prop} {sz:Nat} {h:Hp} {F:List Nat} {v:Value} {xs:List α} {t e:TypeId} {x f:Operand} {i:Int} {y:α}
    (b:Sl P t e sz=true) (j:opv l x=some v) (k:opv l f=some (.int .i64 i)) (m:RSl R sz h F v xs) (p:idx xs i=some y) :
    OpQ P (.indexAddr t x f) l S (.pointer (some ⟨sb v,so v+i.toNat*sz,none⟩)):=fun n a w o q g hw=>by
  obtain⟨r,h1,s⟩:=a8 p
  obtain⟨c,u⟩:=m.addr (by rintro rfl;simp at s)
  unfold Sl at b
  split at b
  · rename_i z hu
    simp only[gm,beq_iff_eq] at b
    obtain⟨rfl,b⟩:=b
    cases d:P.info? z with
    | none=>simp[d] at b
    | some A=>
      have B:A.size=sz:=by simpa[d] using b
      have C:opv l x=some (.slice (some ⟨sb v,so v,none⟩) xs.length c):=by rw[j,← u]
      unfold execOp;simp only[q,g.eval C,g.eval k]
      simp[Instr.indexAt,Sem.run_bind,run_underlying hu,asIntOf,r,h1,sizeOf,typeInfo,d,B,Addr.add_mid]
  · cases b

theorem yf {t:TypeId} (a:T1 P t=true) (w:World):(isAgg t).run P w = .ok false w:=by
  unfold T1 at a
  split at a
  · cases a
  · cases a
  · rename_i d h1 b hu
    unfold isAgg
    rw[Sem.run_bind,run_underlying hu w]
    cases d <;> simp_all
  · cases a

theorem aZ {t:TypeId} {x:Operand} {b o:Nat} {v:Value} (c:T1 P t=true) (d:opv l x=some (.pointer (some ⟨b,o,none⟩))) (e:∀ w,S w→w.rangeAt b o [v]):OpQ P (.load t x) l S v:=fun n a w op f g hw=>by
  unfold execOp;simp only[f,g.eval d]
  simp[Instr.loadAt,Instr.sureAddr,loadVar,Sem.run_bind,yf c,xc (e w hw)]

theorem aw {t n:TypeId} {x:Operand} {b o:Nat} {cs:List Value} (c:Tn P t n=true) (d:opv l x=some (.pointer (some ⟨b,o,none⟩))) (e:∀ w,S w→w.rangeAt b o cs) (f:cs.length=n):OpQ P (.load t x) l S (.agg cs.toArray):=fun m a w op g h hw=>by
  unfold Tn at c
  split at c
  · rename_i i hu
    unfold execOp;simp only[g,h.eval d]
    simp only[Sem.run_bind,run_loadAt_mid w b o t cs _ (e w hw) hu rfl (by rw[f];simpa using c)];rfl
  · cases c

theorem aX {t n:TypeId} {p:Tmp} {b o:Nat} {cs:List Value} (a:Tn P t n=true) (c:lk l p=some (.pointer (some ⟨b,o,none⟩))) (d:∀ w,S w→w.rangeAt b o cs) (e:cs.length=n):xe P (.cell p t) l S (.agg cs.toArray):=by
  unfold Tn at a
  split at a
  · rename_i f hu
    exact⟨⟨b,o,none⟩,c,fun w hw=>run_loadVar_mid w b o t cs _ (d w hw) hu rfl (by rw[e];simpa using a)⟩
  · cases a

theorem Fe {x:Operand} {i:Nat} {vs:Array Value} {v:Value} (b:opv l x=some (.tuple vs)) (c:vs[i]?=some v):OpQ P (.extract x i) l S v:=fun n a w op d e hw=>by
  unfold execOp;simp only[d,e.eval b]
  simp[Instr.extract,c]

theorem t6 {t:TypeId} {x b:Operand} {s:ByteArray} {i:Int} {c:UInt8} (d:Str P t=true) (h:opv l x=some (.string s)) (j:opv l b=some (.int .i64 i)) (k:idx s.data.toList i=some c) :
    OpQ P (.index t x b) l S (.int .u8 c.toNat):=fun n a w o m e hw=>by
  obtain⟨p,h1,f⟩:=a8 k
  have hu:P.underlying t=some .string:=by unfold Str at d;split at d <;> simp_all
  unfold execOp;simp only[m,e.eval h,e.eval j]
  have q:i.toNat < s.size:=by
    have g:=(gx.1 f).1
    rw[Array.length_toList] at g
    exact g
  have r:s[i.toNat]?=some c:=by
    rw[getElem?_pos s i.toNat q]
    obtain⟨_,u⟩:=gx.1 f
    rw[← u]
    rfl
  simp[Instr.index,Sem.run_bind,run_underlying hu,asIntOf,p,r]

end quiet

theorem bind_some {α β:Type} {m:Option α} {f:α→Option β} {r:β} (h:m.bind f=some r):∃ x,m=some x∧f x=some r:=by
  cases m with
  | none=>cases h
  | some x=>exact⟨x,rfl,h⟩
theorem lP {α:Type} {c:Bool} {x y z:α} (h:(if c then x else y)=z) (a:c=true):x=z:=by subst a;simpa using h
theorem mb {α:Type} {c:Bool} {x y z:α} (h:(if c then x else y)=z) (a:c=false):y=z:=by subst a;simpa using h

theorem EL {α:Type} {r:α} (h:(none:Option α)=some r):False:=by cases h
section
variable {P:Program} {l:Env} {S:World→Prop}
def Bo (P:Program) (t:Nat):Bool:=match P.underlying t with | some .bool=>true | _=>false
theorem vE {P:Program} {t:Nat} {i j:Bool} {w:World} (hu:P.underlying t=some .bool) (d:Nat):(Op.equalIn (d+1) t (.bool i) (.bool j)).run P w = .ok (i == j) w:=by
  unfold Op.equalIn
  simp only[Sem.run_bind,run_underlying hu,Result.andThen_ok,Sem.run_pure]
theorem MI {P:Program} {x y:Operand} {t u:TypeId} {i j:Bool} (b:Bo P t=true) (d:opv l x=some (.bool i)) (e:opv l y=some (.bool j)):OpQ P (.binOp .eql t x y u) l S (.bool (i == j)):=fun n a w o f c hw=>by
  have hu:P.underlying t=some .bool:=by unfold Bo at b;split at b <;> simp_all
  unfold execOp;simp only[f,c.eval d,c.eval e]
  have he:(Op.equal t (.bool i) (.bool j)).run P w = .ok (i == j) w:=vE hu 9999
  simp[eqGuard,binOp,Sem.run_bind,he]
theorem M9 {P:Program} {x y:Operand} {t u:TypeId} {i j:Bool} (b:Bo P t=true) (d:opv l x=some (.bool i)) (e:opv l y=some (.bool j)):OpQ P (.binOp .neq t x y u) l S (.bool (i != j)):=fun n a w o f c hw=>by
  have hu:P.underlying t=some .bool:=by unfold Bo at b;split at b <;> simp_all
  unfold execOp;simp only[f,c.eval d,c.eval e]
  have he:(Op.equal t (.bool i) (.bool j)).run P w = .ok (i == j) w:=vE hu 9999
  simp[eqGuard,binOp,Sem.run_bind,he]
  cases i <;> cases j <;> rfl
def slt (x y:ByteArray):Bool:=Op.bytesLess x.toList y.toList
theorem MD {P:Program} {x y:Operand} {t u:TypeId} {i j:ByteArray} (c:opv l x=some (.string i)) (d:opv l y=some (.string j)):OpQ P (.binOp .lss t x y u) l S (.bool (slt i j)):=fun n a w o e b hw=>by
  unfold execOp;simp only[e,b.eval c,b.eval d]
  simp[eqGuard,binOp,Op.stringOp,slt]
end
theorem d6 {v:Value} (h:v.oneCell'=true):v.cells.toList=[v]:=by cases v <;> first | rfl | (simp[Value.oneCell'] at h)
def RI (a:IntKind) (b:Hp) (F:List Nat) (cs:List Value) (x:Int):Prop:=cs=[.int a x]∧F=[]
def RB (a:Hp) (F:List Nat) (cs:List Value) (x:Bool):Prop:=cs=[.bool x]∧F=[]
def RS (a:Hp) (F:List Nat) (cs:List Value) (x:ByteArray):Prop:=cs=[.string x]∧F=[]
theorem RI.lasts {a:IntKind}:cB (RI a):=fun _ _ _ _ _ _ _ _ h=>h
theorem RB.lasts:cB RB:=fun _ _ _ _ _ _ _ _ h=>h
theorem RS.lasts:cB RS:=fun _ _ _ _ _ _ _ _ h=>h
theorem RI.knows {a:IntKind}:dv (RI a):=fun _ _ _ _ h=>h.2 ▸ Kw.nil
theorem RB.knows:dv RB:=fun _ _ _ _ h=>h.2 ▸ Kw.nil
theorem RS.knows:dv RS:=fun _ _ _ _ h=>h.2 ▸ Kw.nil
theorem RI.one {b:IntKind}:gt (RI b):=fun c F cs x h v a=>by obtain⟨rfl,-⟩:=h;simp at a;subst a;rfl
theorem RB.one:gt RB:=fun b F cs x h v a=>by obtain⟨rfl,-⟩:=h;simp at a;subst a;rfl
theorem RS.one:gt RS:=fun b F cs x h v a=>by obtain⟨rfl,-⟩:=h;simp at a;subst a;rfl

section
variable {P:Program} {l:Env} {S:World→Prop}

def Ik (P:Program) (t:Nat) (k:IntKind):Bool:=match P.underlying t with | some (.int a)=>decide (a=k) | _=>false
theorem Ig {t:Nat} {k:IntKind} (h:Ik P t k=true):P.underlying t=some (.int k):=by
  unfold Ik at h;split at h
  · rename_i a hu;rw[hu,of_decide_eq_true h]
  · cases h

theorem nA {src dst:TypeId} {k b:IntKind} {x:Operand} {i:Int} (c:Ik P src k=true) (d:Ik P dst b=true) (e:opv l x=some (.int k i)):OpQ P (.convert src dst x) l S (.int b (b.wrap i)):=fun n a w o f g hw=>by
  unfold execOp;simp only[f,g.eval e]
  simp[convert,run_underlying (Ig c),run_underlying (Ig d),Conv.intToInt]

theorem Mh {x y:Operand} {t u:TypeId} {k:IntKind} {i j:Int} (a:opv l x=some (.int k i)) (b:opv l y=some (.int k j)) (c:j≠0):OpQ P (.binOp .rem t x y u) l S (.int k (i.tmod j)):=
  sc a b fun w=>by simp[eqGuard,binOp,Op.intDiv,c]

def FJ (i j:Int):Option Int:=if j=0 then none else some (i.tmod j)
theorem HS {x y:Operand} {t u:TypeId} {k:IntKind} {i j m:Int} (a:opv l x=some (.int k i)) (b:opv l y=some (.int k j)) (h:FJ i j=some m):OpQ P (.binOp .rem t x y u) l S (.int k m):=by
  unfold FJ at h;split at h
  · cases h
  · cases h;exact Mh a b (by assumption)

def xW (k:IntKind) (i j:Int):Int:=k.wrap ((BitVec.ofInt k.bits i) &&& (BitVec.ofInt k.bits j)).toNat
def Jk (k:IntKind) (i j:Int):Int:=k.wrap ((BitVec.ofInt k.bits i) ^^^ (BitVec.ofInt k.bits j)).toNat
theorem HO {x y:Operand} {t u:TypeId} {k:IntKind} {i j:Int} (a:opv l x=some (.int k i)) (b:opv l y=some (.int k j)):OpQ P (.binOp .and t x y u) l S (.int k (xW k i j)):=
  sc a b fun w=>by simp[eqGuard,binOp,Op.intBits,xW]
theorem Mo {x y:Operand} {t u:TypeId} {k:IntKind} {i j:Int} (a:opv l x=some (.int k i)) (b:opv l y=some (.int k j)):OpQ P (.binOp .xor t x y u) l S (.int k (Jk k i j)):=
  sc a b fun w=>by simp[eqGuard,binOp,Op.intBits,Jk]

theorem Ja {op:BinOp} {x y:Operand} {t u:TypeId} {k b:IntKind} {i j:Int} {v:Value} (d:opv l x=some (.int k i)) (e:opv l y=some (.int b j))
    (f:∀ w,(do eqGuard op t x y (.int k i) (.int b j);binOp op t (.int k i) (.int b j):Sem Value).run P w = .ok v w):OpQ P (.binOp op t x y u) l S v:=fun n a w o g c hw=>by
  unfold execOp;simp only[g,c.eval d,c.eval e]
  simp only[Sem.run_bind,f w];rfl
def fc (k:IntKind) (i j:Int):Int:=i.fdiv (2 ^ (min j.toNat k.bits))
theorem A4 {x y:Operand} {t u:TypeId} {k a:IntKind} {i j:Int} (b:opv l x=some (.int k i)) (c:opv l y=some (.int a j)) (d : ¬ j < 0):OpQ P (.binOp .shr t x y u) l S (.int k (fc k i j)):=
  Ja b c fun w=>by simp[eqGuard,binOp,Op.shift,d,fc]
inductive LK | i (k:IntKind) | b | s deriving DecidableEq
def Iz:LK→Value→Value→Bool
  | .i _,.int _ a,.int _ b=>a == b
  | .b,.bool a,.bool b=>a == b
  | .s,.string a,.string b=>seq a b
  | _,_,_=>false
def JK:LK→Value→Value→Bool
  | .i k,.int a _,.int b _=>decide (a=k) && decide (b=k)
  | .b,.bool _,.bool _=>true
  | .s,.string _,.string _=>true
  | _,_,_=>false
def ceq:List LK→List Value→List Value→Bool
  | k :: a,x :: xs,y :: b=>Iz k x y && ceq a xs b
  | _,_,_=>true
def cok:List LK→List Value→List Value→Bool
  | [],[],[]=>true
  | k :: a,x :: xs,y :: b=>JK k x y && cok a xs b
  | _,_,_=>false

theorem cok.len:∀ {L:List LK} {xs a:List Value},cok L xs a=true→xs.length=L.length∧a.length=L.length
  | [],[],[],_=>⟨rfl,rfl⟩
  | k :: b,x :: xs,y :: a,h=>by
    simp only[cok,gm] at h
    have:=cok.len h.2
    simp[this.1,this.2]
  | [],_ :: _,_,h=>by simp[cok] at h
  | [],[],_ :: _,h=>by simp[cok] at h
  | _ :: _,[],_,h=>by simp[cok] at h
  | _ :: _,_ :: _,[],h=>by simp[cok] at h

theorem yD:∀ {L1 a:List LK} {xs b:List Value},cok (L1++a) xs b=true→∃ c d e f,xs=c++d∧b=e++f∧cok L1 c e=true∧cok a d f=true∧ceq (L1++a) xs b=(ceq L1 c e && ceq a d f)
  | [],a,xs,b,h=>⟨[],xs,[],b,rfl,rfl,rfl,h,by simp[ceq]⟩
  | k :: L1,a,[],b,h=>by simp[cok] at h
  | k :: L1,a,x :: xs,[],h=>by simp[cok] at h
  | k :: L1,a,x :: xs,y :: b,h=>by
    simp only[List.cons_append,cok,gm] at h
    obtain⟨c,d,e,f,rfl,rfl,h1,g,i⟩:=yD h.2
    refine⟨x :: c,d,y :: e,f,rfl,rfl,by simp[cok,h.1,h1],g,?_⟩
    simp only[List.cons_append,ceq,i,Bool.and_assoc]

def Gv (P:Program) (E:TypeId→Option (List LK)):List Field→Nat→Option (List LK)
  | [],_=>some []
  | f :: a,off=>
    if f.name = "_" ∨ f.offset≠off then none else
    match E f.type with
    | none=>none
    | some L=>if (T1 P f.type && L.length == 1) || Tn P f.type L.length then (Gv P E a (off+L.length)).map (L ++ ·) else none

def Gq (P:Program):Nat→TypeId→Option (List LK)
  | 0,_=>none
  | d+1,t=>match P.underlying t with
    | some (.int k)=>some [.i k]
    | some .bool=>some [.b]
    | some .string=>some [.s]
    | some (.struct a)=>if P.stoodInHeld t then none else Gv P (Gq P d) a.toList 0
    | _=>none

def mkV (P:Program) (t:TypeId) (c:List Value) (v:Value):Prop:=(T1 P t=true∧c=[v])∨(T1 P t=false∧v = .agg c.toArray)

theorem Bz {d:Nat} {E:TypeId→Option (List LK)}
    (u:∀ t L,E t=some L→∀ b c,cok L b c=true→∀ k l,mkV P t b k→mkV P t c l→∀ w,(Op.equalIn d t k l).run P w = .ok (ceq L b c) w) :
    ∀ (j:List Field) (off:Nat) (L:List LK),Gv P E j off=some L→∀ (g i b c:List Value),g.length=off→i.length=off→cok L b c=true→∀ w,
      (Op.eqFields d (g++b).toArray (i++c).toArray j).run P w = .ok (ceq L b c) w
  | [],off,L,h,g,i,b,c,_,_,o,w=>by
    cases h
    cases b <;> cases c <;> simp[cok] at o
    rfl
  | f :: j,off,L,h,g,i,b,c,x,y,o,w=>by
    unfold Gv at h
    split at h
    · cases h
    · rename_i z
      have K:f.name ≠ "_" := fun e=>z (.inl e)
      have A:f.offset=off:=Classical.byContradiction fun e=>z (.inr e)
      split at h
      · cases h
      · rename_i L1 M
        split at h
        · rename_i B
          cases q:Gv P E j (off+L1.length) with
          | none=>simp[q] at h
          | some N=>
            simp only[q,Option.map_some,Option.some.injEq] at h
            subst h
            obtain⟨m,C,n,D,rfl,rfl,h1,O,Q⟩:=yD o
            obtain⟨F,G⟩:=cok.len h1
            have H:∀ (p c1 c2:List Value),p.length=off→c1.length=L1.length→∃ v,(part f.type (p++(c1++c2)).toArray f.offset).run P w = .ok v w∧mkV P f.type c1 v:=by
              intro p c1 c2 hp r
              rw[Bool.or_eq_true,gm] at B
              rcases B with ⟨a,s⟩ | a
              · have s:L1.length=1:=by simpa using s
                rw[s] at r
                match c1,r with
                | [v],_=>
                  refine⟨v,?_,.inl ⟨a,rfl⟩⟩
                  unfold part
                  simp[Sem.run_bind,yf a,A,← hp]
              · have R:T1 P f.type=false:=by
                  unfold Tn at a;unfold T1
                  split at a
                  · rename_i S hu;rw[hu]
                  · cases a
                refine⟨.agg c1.toArray,?_,.inr ⟨R,rfl⟩⟩
                unfold Tn at a
                split at a
                · rename_i S hu
                  have T:(isAgg f.type).run P w = .ok true w:=by simp[isAgg,run_underlying hu]
                  have U:(sizeOf f.type).run P w = .ok L1.length w:=by
                    cases I:P.info? f.type with
                    | none=>simp[I] at a
                    | some Z=>simp[sizeOf,typeInfo,I] at a ⊢;exact a
                  unfold part
                  simp only[Sem.run_bind,T,Result.andThen_ok,if_true,U,Sem.run_pure]
                  congr 2
                  rw[A]
                  apply Array.ext'
                  simp[Array.toList_extract,List.extract,← hp,← r]
                · cases a
            obtain⟨k,rx,V⟩:=H g m C x F
            obtain⟨l,W,X⟩:=H i n D y G
            unfold Op.eqFields
            simp only[if_pos K,Sem.run_bind,rx,W,Result.andThen_ok,u f.type L1 M m n h1 k l V X w]
            rw[Q]
            cases hq:ceq L1 m n with
            | false=>simp
            | true=>
              simp only[Bool.not_true,Bool.false_eq_true,if_false,Bool.true_and]
              have Y:=Bz u j (off+L1.length) N q (g++m) (i++n) C D (by simp[x,F]) (by simp[y,G]) O w
              simpa[List.append_assoc] using Y
        · cases h

theorem Ct:∀ (d:Nat) (t:TypeId) (L:List LK),Gq P d t=some L→∀ g i,cok L g i=true→∀ e f,mkV P t g e→mkV P t i f→∀ w,(Op.equalIn d t e f).run P w = .ok (ceq L g i) w
  | 0,t,L,h,_,_,_,_,_,_,_,_=>by simp[Gq] at h
  | d+1,t,L,h,g,i,j,e,f,a,b,w=>by
    unfold Gq at h
    split at h
    · rename_i k hu
      cases h
      have c:T1 P t=true:=by simp[T1,hu]
      rcases a with ⟨_,rfl⟩ | ⟨a,_⟩
      · rcases b with ⟨_,rfl⟩ | ⟨b,_⟩
        · cases e <;> cases f <;> simp[cok,JK] at j
          obtain⟨rfl,rfl⟩:=j
          rw[run_equalIn_int w d t _ _ _ _ hu];simp[ceq,Iz]
        · rw[c] at b;cases b
      · rw[c] at a;cases a
    · rename_i hu
      cases h
      have c:T1 P t=true:=by simp[T1,hu]
      rcases a with ⟨_,rfl⟩ | ⟨a,_⟩
      · rcases b with ⟨_,rfl⟩ | ⟨b,_⟩
        · cases e <;> cases f <;> simp[cok,JK] at j
          rw[run_equalIn_bool' w d t _ _ hu];simp[ceq,Iz]
        · rw[c] at b;cases b
      · rw[c] at a;cases a
    · rename_i hu
      cases h
      have c:T1 P t=true:=by simp[T1,hu]
      rcases a with ⟨_,rfl⟩ | ⟨a,_⟩
      · rcases b with ⟨_,rfl⟩ | ⟨b,_⟩
        · cases e <;> cases f <;> simp[cok,JK] at j
          rw[run_equalIn_string w d t _ _ hu];simp[ceq,Iz,seq]
        · rw[c] at b;cases b
      · rw[c] at a;cases a
    · rename_i l hu
      split at h
      · cases h
      · rename_i n
        have c:T1 P t=false:=by simp[T1,hu]
        rcases a with ⟨a,_⟩ | ⟨_,rfl⟩
        · rw[c] at a;cases a
        rcases b with ⟨b,_⟩ | ⟨_,rfl⟩
        · rw[c] at b;cases b
        have m:P.fieldsOf t=l:=by simp[Program.fieldsOf,hu]
        rw[run_equalIn_struct w d t _ _ (by rw[m,hu]) (by simpa using n),m]
        exact Bz (fun o p q=>Ct d o p q) l.toList 0 L h [] [] g i rfl rfl j w
    · cases h

def EqT (P:Program) (t:TypeId) (L:List LK):Bool:=(match P.underlying t with | some (.struct _)=>true | _=>false) && decide (Gq P 10000 t=some L) && !(P.eqGuardType P.depth t)

theorem DO {t:TypeId} {L:List LK} (h:EqT P t L=true) {a b:List Value} (d:cok L a b=true) (w:World):(Op.equalIn 10000 t (.agg a.toArray) (.agg b.toArray)).run P w = .ok (ceq L a b) w:=by
  unfold EqT at h
  simp only[gm,decide_eq_true_eq] at h
  obtain⟨⟨h1,e⟩,h3⟩:=h
  have c:T1 P t=false:=by
    unfold T1;split at h1
    · rename_i hu;rw[hu]
    · cases h1
  exact Ct 10000 t L e a b d _ _ (.inr ⟨c,rfl⟩) (.inr ⟨c,rfl⟩) w

theorem DU {t u:TypeId} {L:List LK} {x y:Operand} {b c:List Value} {r:Bool} (h:EqT P t L=true) (e:opv l x=some (.agg b.toArray)) (f:opv l y=some (.agg c.toArray)) (g:cok L b c=true) (i:ceq L b c=r) :
    OpQ P (.binOp .eql t x y u) l S (.bool r):=fun n a w o j d hw=>by
  have k:P.eqGuardType P.depth t=false:=by unfold EqT at h;simp only[gm] at h;simpa using h.2
  unfold execOp;simp only[j,d.eval e,d.eval f]
  simp only[Sem.run_bind,run_eqGuard_agg w .eql t x y _ _ k,Result.andThen_ok,run_eql_struct,DO h g,i];rfl
theorem tH {t u:TypeId} {L:List LK} {x y:Operand} {b c:List Value} {r:Bool} (h:EqT P t L=true) (e:opv l x=some (.agg b.toArray)) (f:opv l y=some (.agg c.toArray)) (g:cok L b c=true) (i:ceq L b c=r) :
    OpQ P (.binOp .neq t x y u) l S (.bool (!r)):=fun n a w o j d hw=>by
  have k:P.eqGuardType P.depth t=false:=by unfold EqT at h;simp only[gm] at h;simpa using h.2
  unfold execOp;simp only[j,d.eval e,d.eval f]
  simp only[Sem.run_bind,run_eqGuard_agg w .neq t x y _ _ k,Result.andThen_ok,run_neq_struct,DO h g,i];rfl

theorem xG {n:Nat} {a:Act} {ops:Array Oper} (c:Fr n l a) {j:Nat} (h:yl ops l j=some undef):yielded ops a.tmps j=none:=by
  unfold yl at h
  unfold yielded
  cases b:(ops[j]?).bind (·.dst) with
  | none=>simp[b] at h
  | some t=>
    simp only[b,Option.bind_some] at h
    simp[c.at_ t _ h,undef]

theorem WL.nox {g:G} {k:List Item} {ops:Array Oper} {rest:List Oper} {o:Oper} {j d:Nat} {b:Bool} (e:o.guard=some (j,b)) (f:yl ops l j=some undef) (i:o.dst=some d) (m:Nat.blt d g.n=true)
    (h:WL g k ops rest ((d,undef) :: l) S):WL g k ops (o :: rest) l S:=fun a w c hw=>by
  have n:Region.wanted o (yielded ops a.tmps)=false:=by simp[Region.wanted,e,xG c f]
  simp only[wpList,n,i]
  exact h _ _ (c.put m undef) hw
theorem WQ.nox {g:G} {k:List Item} {ops:Array Oper} {rest:List Oper} {o:Oper} {j d:Nat} {b:Bool} (e:o.guard=some (j,b)) (f:yl ops l j=some undef) (i:o.dst=some d) (m:Nat.blt d g.n=true)
    (h:WQ g k ops rest ((d,undef) :: l) S):WQ g k ops (o :: rest) l S:=fun a c=>by
  have n:Region.wanted o (yielded ops a.tmps)=false:=by simp[Region.wanted,e,xG c f]
  simp only[wpQuiet,n,i]
  exact h _ (c.put m undef)

end
section
variable {l:Env}
def pm (l:Env):List Operand→Option (List Value)
  | []=>some []
  | x :: xs=>match opv l x,pm l xs with
    | some v,some vs=>some (v :: vs)
    | _,_=>none

theorem uJ {n:Nat} {a:Act} (b:Fr n l a):∀ {xs:List Operand} {vs:List Value},pm l xs=some vs→xs.map a.eval=vs
  | [],vs,h=>by simp[pm] at h;simp[h]
  | x :: xs,vs,h=>by
    simp only[pm] at h
    split at h
    · rename_i v d h1 c
      simp only[Option.some.injEq] at h
      subst h
      simp[b.eval h1,uJ b c]
    · cases h

end
theorem w7 {P:Program} {t e sz:Nat} (h:Sl P t e sz=true):P.underlying t=some (.slice e):=by
  unfold Sl at h
  split at h
  · rename_i a hu
    simp only[gm,beq_iff_eq] at h
    rw[hu,h.1]
  · cases h

theorem RSl.nilOr {e:Hp} {α:Type} {R:Hp→List Nat→List Value→α→Prop} {sz:Nat} {F:List Nat} {v:Value} {xs:List α} (h:RSl R sz e F v xs):(xs=[]∧∃ c,v = .slice none 0 c)∨∃ a c,v = .slice (some a) xs.length c:=by
  obtain⟨a,c,b,_⟩:=h.form
  cases a with
  | some a=>exact .inr ⟨a,c,b⟩
  | none=>
    by_cases d:xs=[]
    · subst d;exact .inl ⟨rfl,c,b⟩
    · obtain⟨g,f⟩:=h.addr d
      rw[f] at b;cases b

theorem nF {P:Program} {l:Env} {S:World→Prop} {t e sz u n c:Nat} {x y:Operand} {a:Option Addr} (f:Sl P t e sz=true) (g:opv l x=some (.slice a n c)) (h:opv l y=some (.slice none 0 0)):OpQ P (.binOp .eql t x y u) l S (.bool a.isNone):=fun m b w o i d hw=>by
  have hu:=w7 f
  unfold execOp;simp only[i,d.eval g,d.eval h]
  simp[eqGuard,Sem.run_bind,Lib.run_eql_slice_nil w t e a n c 0 0 hu]
theorem xV {P:Program} {l:Env} {S:World→Prop} {fn:Fn} {xs:List Operand} {vs:List Value} (b:pm l xs=some vs):OpQ P (.makeFunc fn #[] xs.toArray) l S (.func fn #[] vs.toArray):=fun n a w o c d hw=>by
  unfold execOp
  simp only[c]
  have:xs.toArray.map a.eval=vs.toArray:=by simp[uJ d b]
  simp[this,Instr.makeFunc]

theorem aC {P:Program} {l:Env} {S:World→Prop} {x:Operand} {a:Addr} (c:opv l x=some (.pointer (some a))):OpQ P (.nilCheck x) l S (.pointer (some a)):=fun n b w o d e hw=>by
  unfold execOp;simp only[d,e.eval c];rfl

end Go.Proofs.YtedmfnmbjglmbaaGreat.Eng
