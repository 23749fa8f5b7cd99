/-
  The engine, part C: closed facts and the operations that leave the world.
  Nothing here names a program.
-/
import Derived.Test.YtedmfnmbjglmbaaGreatEB
import Derived.Laws.StructEq
import Derived.WalkSpells
namespace Go.Proofs.YtedmfnmbjglmbaaGreat.Eng
open Go.RowKit (Below wrap64)
set_option linter.unusedVariables false
set_option linter.unusedSimpArgs false

def T1 (P:Program) (t:TypeId):Bool:=match P.underlying t with | some (.struct _)=>false | some (.array _ _)=>false | some _=>true | none=>false
def Tn (P:Program) (t n:Nat):Bool:=match P.underlying t with | some (.struct _)=>(P.info? t).map (·.size) == some n | _=>false
def Fld (P:Program) (t i off:Nat):Bool:=
  match P.underlying t with
  | some (.struct a)=>match a[i]? with
    | some f=>f.offset == off && match P.info? f.type with | some i=>Nat.blt 0 i.size | none=>false
    | none=>false
  | _=>false
def Sl (P:Program) (t e sz:Nat):Bool:=match P.underlying t with | some (.slice a)=>a == e && (P.info? e).map (·.size) == some sz | _=>false
def Str (P:Program) (t:Nat):Bool:=match P.underlying t with | some .string=>true | _=>false
def Fun (P:Program) (f:Nat):Bool:=match P.funcs[f]? with | some fn=>fn.body.isSome && !(fn.name == "runtime.NumGoroutine") | none=>false
def Sz (P:Program) (t n:Nat):Bool:=(P.info? t).map (·.size) == some n

section quiet
variable {P:Program} {l:Env} {S:World→Prop}

theorem de {x:Operand} {v:Value} (h:opv l x=some v):OpQ P (.move x) l S v:=fun n a w o b c hw=>by
  unfold execOp;simp only[b,c.eval h];rfl
theorem GH {x:Operand} {v:Value} (h:opv l x=some v):OpQ P (.assign x) l S v:=fun n a w o b c hw=>by
  unfold execOp;simp only[b,c.eval h];rfl
theorem m3 {c x y:Operand} {u:Value} (d:opv l c=some (.bool true)) (e:opv l x=some u):OpQ P (.pick c x y) l S u:=fun n a w o f b hw=>by
  unfold execOp;simp only[f,b.eval d,b.eval e];rfl
theorem qh {c x y:Operand} {u:Value} (d:opv l c=some (.bool false)) (e:opv l y=some u):OpQ P (.pick c x y) l S u:=fun n a w o f b hw=>by
  unfold execOp;simp only[f,b.eval d,b.eval e];rfl

theorem sh {op:BinOp} {x y:Operand} {t u:TypeId} {k:IntKind} {i j:Int} {v:Value} (c:opv l x=some (.int k i)) (d:opv l y=some (.int k j))
    (e:∀ w,(do eqGuard op t x y (.int k i) (.int k j);binOp op t (.int k i) (.int k j):Sem Value).run P w = .ok v w):OpQ P (.binOp op t x y u) l S v:=fun n a w o f b hw=>by
  unfold execOp;simp only[f,b.eval c,b.eval d]
  simp only[Sem.run_bind,e w];rfl

theorem KS {x y:Operand} {t u:TypeId} {k:IntKind} {i j:Int} (a:opv l x=some (.int k i)) (b:opv l y=some (.int k j)):OpQ P (.binOp .lss t x y u) l S (.bool (decide (i < j))):=
  sh a b fun w=>by simp[eqGuard,binOp,Op.intCmp]
theorem KV {x y:Operand} {t u:TypeId} {k:IntKind} {i j:Int} (a:opv l x=some (.int k i)) (b:opv l y=some (.int k j)):OpQ P (.binOp .leq t x y u) l S (.bool (decide (i≤j))):=
  sh a b fun w=>by simp[eqGuard,binOp,Op.intCmp]
theorem KU {x y:Operand} {t u:TypeId} {k:IntKind} {i j:Int} (a:opv l x=some (.int k i)) (b:opv l y=some (.int k j)):OpQ P (.binOp .gtr t x y u) l S (.bool (decide (j < i))):=
  sh a b fun w=>by simp[eqGuard,binOp,Op.intCmp]
theorem J7 {x y:Operand} {t u:TypeId} {k:IntKind} {i j:Int} (a:opv l x=some (.int k i)) (b:opv l y=some (.int k j)):OpQ P (.binOp .geq t x y u) l S (.bool (decide (j≤i))):=
  sh a b fun w=>by simp[eqGuard,binOp,Op.intCmp]
theorem Li {x y:Operand} {t u:TypeId} {k:IntKind} {i j:Int} (a:opv l x=some (.int k i)) (b:opv l y=some (.int k j)):OpQ P (.binOp .eql t x y u) l S (.bool (decide (i=j))):=
  sh a b fun w=>by simp[eqGuard,binOp,Op.intCmp];rfl
theorem KJ {x y:Operand} {t u:TypeId} {k:IntKind} {i j:Int} (a:opv l x=some (.int k i)) (b:opv l y=some (.int k j)):OpQ P (.binOp .neq t x y u) l S (.bool (!decide (i=j))):=
  sh a b fun w=>by simp[eqGuard,binOp,Op.intCmp];rfl

theorem Ja {x y:Operand} {t u:TypeId} {k:IntKind} {i j:Int} (a:opv l x=some (.int k i)) (b:opv l y=some (.int k j)):OpQ P (.binOp .add t x y u) l S (.int k (k.wrap (i+j))):=
  sh a b fun w=>by simp[eqGuard,binOp,Op.intArith]
theorem E6 {x y:Operand} {t u:TypeId} {k:IntKind} {i j:Int} (a:opv l x=some (.int k i)) (b:opv l y=some (.int k j)):OpQ P (.binOp .sub t x y u) l S (.int k (k.wrap (i - j))):=
  sh a b fun w=>by simp[eqGuard,binOp,Op.intArith]
theorem KT {x y:Operand} {t u:TypeId} {k:IntKind} {i j:Int} (a:opv l x=some (.int k i)) (b:opv l y=some (.int k j)):OpQ P (.binOp .mul t x y u) l S (.int k (k.wrap (i*j))):=
  sh a b fun w=>by simp[eqGuard,binOp,Op.intArith]

theorem KN {t:TypeId} {x:Operand} {b:Bool} (c:opv l x=some (.bool b)):OpQ P (.unOp .not t x) l S (.bool (!b)):=fun n a w o d e hw=>by
  unfold execOp;simp only[d,e.eval c];rfl
def seq (x y:ByteArray):Bool:=x.toList == y.toList

theorem Lh {x y:Operand} {t u:TypeId} {i j:ByteArray} (c:opv l x=some (.string i)) (d:opv l y=some (.string j)):OpQ P (.binOp .eql t x y u) l S (.bool (seq i j)):=fun n a w o e b hw=>by
  unfold execOp;simp only[e,b.eval c,b.eval d]
  simp[eqGuard,binOp,Op.stringOp,seq]
theorem L8 {x y:Operand} {t u:TypeId} {i j:ByteArray} (c:opv l x=some (.string i)) (d:opv l y=some (.string j)):OpQ P (.binOp .neq t x y u) l S (.bool (!seq i j)):=fun n a w o e b hw=>by
  unfold execOp;simp only[e,b.eval c,b.eval d]
  simp[eqGuard,binOp,Op.stringOp,seq]

theorem nW {t:TypeId} {args:Array Operand} {x:Operand} {s:ByteArray} (b:Str P t=true) (c:args = #[x]) (d:opv l x=some (.string s)) :
    OpQ P (.call ⟨.builtin .len,args,#[t]⟩) l S (.int .i64 s.size):=fun n a w o e f hw=>by
  have hu:P.underlying t=some .string:=by unfold Str at b;split at b <;> simp_all
  unfold execOp;simp only[e,c,resolve]
  simp[invoke,builtin,Builtin.len_,f.eval d,Sem.run_bind,run_underlying hu,goInt]

theorem L7 {t e sz:TypeId} {args:Array Operand} {x:Operand} {p:Option Addr} {m c:Nat} (b:Sl P t e sz=true) (d:args = #[x]) (f:opv l x=some (.slice p m c)) :
    OpQ P (.call ⟨.builtin .len,args,#[t]⟩) l S (.int .i64 m):=fun n a w o g h hw=>by
  have hu:∃ e,P.underlying t=some (.slice e):=by unfold Sl at b;split at b <;> simp_all
  obtain⟨i,hu⟩:=hu
  unfold execOp;simp only[g,d,resolve]
  simp[invoke,builtin,Builtin.len_,h.eval f,Sem.run_bind,run_underlying hu,goInt]

theorem mF {α:Type} {R:Hp→List Nat→List Value→α→Prop} {sz:Nat} {a:Hp} {F:List Nat} {v:Value} {xs:List α} {t e b:TypeId} {args:Array Operand} {x:Operand}
    (d:Sl P t e b=true) (f:args = #[x]) (g:opv l x=some v) (h:RSl R sz a F v xs):OpQ P (.call ⟨.builtin .len,args,#[t]⟩) l S (.int .i64 xs.length):=by
  obtain⟨p,c,hp,_⟩:=h.form
  exact L7 d f (by rw[g,hp])

theorem ak {t i off:Nat} {x:Operand} {b o:Nat} (c:Fld P t i off=true) (e:opv l x=some (.pointer (some ⟨b,o,none⟩))):OpQ P (.fieldAddr t x i) l S (.pointer (some ⟨b,o+off,none⟩)):=fun n a w op g h hw=>by
  unfold Fld at c
  split at c
  · rename_i q hu
    split at c
    · rename_i f j
      simp only[gI,beq_iff_eq] at c
      obtain⟨h1,d⟩:=c
      split at d
      · rename_i k m
        have p:k.size≠0:=by simp at d;omega
        unfold execOp;simp only[g,h.eval e]
        simp[Instr.fieldAt,Sem.run_bind,run_underlying hu,j,Instr.sureAddr,fieldPlace,sizeOf,typeInfo,m,p,← h1,Addr.add_mid]
      · cases d
    · cases c
  · cases c

theorem ae {α:Type} {R:Hp→List Nat→List Value→α→Prop} {sz:Nat} {h:Hp} {F:List Nat} {v:Value} {xs:List α} {t e:TypeId} {x f:Operand} {i:Int} {y:α}
    (b:Sl P t e sz=true) (j:opv l x=some v) (k:opv l f=some (.int .i64 i)) (m:RSl R sz h F v xs) (p:idx xs i=some y) :
    OpQ P (.indexAddr t x f) l S (.pointer (some ⟨sb v,so v+i.toNat*sz,none⟩)):=fun n a w o q g hw=>by
  obtain⟨r,h1,s⟩:=aa p
  obtain⟨c,u⟩:=m.addr (by rintro rfl;simp at s)
  unfold Sl at b
  split at b
  · rename_i z hu
    simp only[gI,beq_iff_eq] at b
    obtain⟨rfl,b⟩:=b
    cases d:P.info? z with
    | none=>simp[d] at b
    | some A=>
      have B:A.size=sz:=by simpa[d] using b
      have C:opv l x=some (.slice (some ⟨sb v,so v,none⟩) xs.length c):=by rw[j,← u]
      unfold execOp;simp only[q,g.eval C,g.eval k]
      simp[Instr.indexAt,Sem.run_bind,run_underlying hu,asIntOf,r,h1,sizeOf,typeInfo,d,B,Addr.add_mid]
  · cases b

theorem yx {t:TypeId} (a:T1 P t=true) (w:World):(isAgg t).run P w = .ok false w:=by
  unfold T1 at a
  split at a
  · cases a
  · cases a
  · rename_i d h1 b hu
    unfold isAgg
    rw[Sem.run_bind,run_underlying hu w]
    cases d <;> simp_all
  · cases a

theorem az {t:TypeId} {x:Operand} {b o:Nat} {v:Value} (c:T1 P t=true) (d:opv l x=some (.pointer (some ⟨b,o,none⟩))) (e:∀ w,S w→w.rangeAt b o [v]):OpQ P (.load t x) l S v:=fun n a w op f g hw=>by
  unfold execOp;simp only[f,g.eval d]
  simp[Instr.loadAt,Instr.sureAddr,loadVar,Sem.run_bind,yx c,wF (e w hw)]

theorem aC {t n:TypeId} {x:Operand} {b o:Nat} {cs:List Value} (c:Tn P t n=true) (d:opv l x=some (.pointer (some ⟨b,o,none⟩))) (e:∀ w,S w→w.rangeAt b o cs) (f:cs.length=n):OpQ P (.load t x) l S (.agg cs.toArray):=fun m a w op g h hw=>by
  unfold Tn at c
  split at c
  · rename_i i hu
    unfold execOp;simp only[g,h.eval d]
    simp only[Sem.run_bind,run_loadAt_mid w b o t cs _ (e w hw) hu rfl (by rw[f];simpa using c)];rfl
  · cases c

theorem aZ {t n:TypeId} {p:Tmp} {b o:Nat} {cs:List Value} (a:Tn P t n=true) (c:lk l p=some (.pointer (some ⟨b,o,none⟩))) (d:∀ w,S w→w.rangeAt b o cs) (e:cs.length=n):wJ P (.cell p t) l S (.agg cs.toArray):=by
  unfold Tn at a
  split at a
  · rename_i f hu
    exact⟨⟨b,o,none⟩,c,fun w hw=>run_loadVar_mid w b o t cs _ (d w hw) hu rfl (by rw[e];simpa using a)⟩
  · cases a

theorem Eb {x:Operand} {i:Nat} {vs:Array Value} {v:Value} (b:opv l x=some (.tuple vs)) (c:vs[i]?=some v):OpQ P (.extract x i) l S v:=fun n a w op d e hw=>by
  unfold execOp;simp only[d,e.eval b]
  simp[Instr.extract,c]

theorem kG {t:TypeId} {x b:Operand} {s:ByteArray} {i:Int} {c:UInt8} (d:Str P t=true) (h:opv l x=some (.string s)) (j:opv l b=some (.int .i64 i)) (k:idx s.data.toList i=some c) :
    OpQ P (.index t x b) l S (.int .u8 c.toNat):=fun n a w o m e hw=>by
  obtain⟨p,h1,f⟩:=aa k
  have hu:P.underlying t=some .string:=by unfold Str at d;split at d <;> simp_all
  unfold execOp;simp only[m,e.eval h,e.eval j]
  have q:i.toNat < s.size:=by
    have g:=(hn.1 f).1
    rw[Array.length_toList] at g
    exact g
  have r:s[i.toNat]?=some c:=by
    rw[getElem?_pos s i.toNat q]
    obtain⟨_,u⟩:=hn.1 f
    rw[← u]
    rfl
  simp[Instr.index,Sem.run_bind,run_underlying hu,asIntOf,p,r]

end quiet

theorem bind_some {α β:Type} {m:Option α} {f:α→Option β} {r:β} (h:m.bind f=some r):∃ x,m=some x∧f x=some r:=by
  cases m with
  | none=>cases h
  | some x=>exact⟨x,rfl,h⟩
theorem fR {α:Type} {c:Bool} {x y z:α} (h:(if c then x else y)=z) (a:c=true):x=z:=by subst a;simpa using h
theorem fO {α:Type} {c:Bool} {x y z:α} (h:(if c then x else y)=z) (a:c=false):y=z:=by subst a;simpa using h

theorem DT {α:Type} {r:α} (h:(none:Option α)=some r):False:=by cases h
section
variable {P:Program} {l:Env} {S:World→Prop}
def Bo (P:Program) (t:Nat):Bool:=match P.underlying t with | some .bool=>true | _=>false
theorem uz {P:Program} {t:Nat} {i j:Bool} {w:World} (hu:P.underlying t=some .bool) (d:Nat):(Op.equalIn (d+1) t (.bool i) (.bool j)).run P w = .ok (i == j) w:=by
  unfold Op.equalIn
  simp only[Sem.run_bind,run_underlying hu,Result.andThen_ok,Sem.run_pure]
theorem Fv {P:Program} {x y:Operand} {t u:TypeId} {i j:Bool} (b:Bo P t=true) (d:opv l x=some (.bool i)) (e:opv l y=some (.bool j)):OpQ P (.binOp .eql t x y u) l S (.bool (i == j)):=fun n a w o f c hw=>by
  have hu:P.underlying t=some .bool:=by unfold Bo at b;split at b <;> simp_all
  unfold execOp;simp only[f,c.eval d,c.eval e]
  have he:(Op.equal t (.bool i) (.bool j)).run P w = .ok (i == j) w:=uz hu 9999
  simp[eqGuard,binOp,Sem.run_bind,he]
theorem Lp {P:Program} {x y:Operand} {t u:TypeId} {i j:Bool} (b:Bo P t=true) (d:opv l x=some (.bool i)) (e:opv l y=some (.bool j)):OpQ P (.binOp .neq t x y u) l S (.bool (i != j)):=fun n a w o f c hw=>by
  have hu:P.underlying t=some .bool:=by unfold Bo at b;split at b <;> simp_all
  unfold execOp;simp only[f,c.eval d,c.eval e]
  have he:(Op.equal t (.bool i) (.bool j)).run P w = .ok (i == j) w:=uz hu 9999
  simp[eqGuard,binOp,Sem.run_bind,he]
  cases i <;> cases j <;> rfl
def slt (x y:ByteArray):Bool:=Op.bytesLess x.toList y.toList
theorem Ll {P:Program} {x y:Operand} {t u:TypeId} {i j:ByteArray} (c:opv l x=some (.string i)) (d:opv l y=some (.string j)):OpQ P (.binOp .lss t x y u) l S (.bool (slt i j)):=fun n a w o e b hw=>by
  unfold execOp;simp only[e,b.eval c,b.eval d]
  simp[eqGuard,binOp,Op.stringOp,slt]
end
theorem bh {v:Value} (h:v.oneCell'=true):v.cells.toList=[v]:=by cases v <;> first | rfl | (simp[Value.oneCell'] at h)
def RI (a:IntKind) (b:Hp) (F:List Nat) (cs:List Value) (x:Int):Prop:=cs=[.int a x]∧F=[]
def RB (a:Hp) (F:List Nat) (cs:List Value) (x:Bool):Prop:=cs=[.bool x]∧F=[]
def RS (a:Hp) (F:List Nat) (cs:List Value) (x:ByteArray):Prop:=cs=[.string x]∧F=[]
theorem RI.lasts {a:IntKind}:bQ (RI a):=fun _ _ _ _ _ _ _ _ h=>h
theorem RB.lasts:bQ RB:=fun _ _ _ _ _ _ _ _ h=>h
theorem RS.lasts:bQ RS:=fun _ _ _ _ _ _ _ _ h=>h
theorem RI.knows {a:IntKind}:cZ (RI a):=fun _ _ _ _ h=>h.2 ▸ Kw.nil
theorem RB.knows:cZ RB:=fun _ _ _ _ h=>h.2 ▸ Kw.nil
theorem RS.knows:cZ RS:=fun _ _ _ _ h=>h.2 ▸ Kw.nil
theorem RI.one {b:IntKind}:fP (RI b):=fun c F cs x h v a=>by obtain⟨rfl,-⟩:=h;simp at a;subst a;rfl
theorem RB.one:fP RB:=fun b F cs x h v a=>by obtain⟨rfl,-⟩:=h;simp at a;subst a;rfl
theorem RS.one:fP RS:=fun b F cs x h v a=>by obtain⟨rfl,-⟩:=h;simp at a;subst a;rfl

section
variable {P:Program} {l:Env} {S:World→Prop}

def Ik (P:Program) (t:Nat) (k:IntKind):Bool:=match P.underlying t with | some (.int a)=>decide (a=k) | _=>false
theorem H3 {t:Nat} {k:IntKind} (h:Ik P t k=true):P.underlying t=some (.int k):=by
  unfold Ik at h;split at h
  · rename_i a hu;rw[hu,of_decide_eq_true h]
  · cases h

theorem tf {src dst:TypeId} {k b:IntKind} {x:Operand} {i:Int} (c:Ik P src k=true) (d:Ik P dst b=true) (e:opv l x=some (.int k i)):OpQ P (.convert src dst x) l S (.int b (b.wrap i)):=fun n a w o f g hw=>by
  unfold execOp;simp only[f,g.eval e]
  simp[convert,run_underlying (H3 c),run_underlying (H3 d),Conv.intToInt]

theorem La {x y:Operand} {t u:TypeId} {k:IntKind} {i j:Int} (a:opv l x=some (.int k i)) (b:opv l y=some (.int k j)) (c:j≠0):OpQ P (.binOp .rem t x y u) l S (.int k (i.tmod j)):=
  sh a b fun w=>by simp[eqGuard,binOp,Op.intDiv,c]

def EY (i j:Int):Option Int:=if j=0 then none else some (i.tmod j)
theorem Gu {x y:Operand} {t u:TypeId} {k:IntKind} {i j m:Int} (a:opv l x=some (.int k i)) (b:opv l y=some (.int k j)) (h:EY i j=some m):OpQ P (.binOp .rem t x y u) l S (.int k m):=by
  unfold EY at h;split at h
  · cases h
  · cases h;exact La a b (by assumption)

def xq (k:IntKind) (i j:Int):Int:=k.wrap ((BitVec.ofInt k.bits i) &&& (BitVec.ofInt k.bits j)).toNat
def HU (k:IntKind) (i j:Int):Int:=k.wrap ((BitVec.ofInt k.bits i) ^^^ (BitVec.ofInt k.bits j)).toNat
theorem GV {x y:Operand} {t u:TypeId} {k:IntKind} {i j:Int} (a:opv l x=some (.int k i)) (b:opv l y=some (.int k j)):OpQ P (.binOp .and t x y u) l S (.int k (xq k i j)):=
  sh a b fun w=>by simp[eqGuard,binOp,Op.intBits,xq]
theorem KR {x y:Operand} {t u:TypeId} {k:IntKind} {i j:Int} (a:opv l x=some (.int k i)) (b:opv l y=some (.int k j)):OpQ P (.binOp .xor t x y u) l S (.int k (HU k i j)):=
  sh a b fun w=>by simp[eqGuard,binOp,Op.intBits,HU]

theorem IQ {op:BinOp} {x y:Operand} {t u:TypeId} {k b:IntKind} {i j:Int} {v:Value} (d:opv l x=some (.int k i)) (e:opv l y=some (.int b j))
    (f:∀ w,(do eqGuard op t x y (.int k i) (.int b j);binOp op t (.int k i) (.int b j):Sem Value).run P w = .ok v w):OpQ P (.binOp op t x y u) l S v:=fun n a w o g c hw=>by
  unfold execOp;simp only[g,c.eval d,c.eval e]
  simp only[Sem.run_bind,f w];rfl
def Ex (k:IntKind) (i j:Int):Int:=i.fdiv (2 ^ (min j.toNat k.bits))
theorem IW {x y:Operand} {t u:TypeId} {k a:IntKind} {i j:Int} (b:opv l x=some (.int k i)) (c:opv l y=some (.int a j)) (d : ¬ j < 0):OpQ P (.binOp .shr t x y u) l S (.int k (Ex k i j)):=
  IQ b c fun w=>by simp[eqGuard,binOp,Op.shift,d,Ex]
inductive LK | i (k:IntKind) | b | s deriving DecidableEq
def IJ:LK→Value→Value→Bool
  | .i _,.int _ a,.int _ b=>a == b
  | .b,.bool a,.bool b=>a == b
  | .s,.string a,.string b=>seq a b
  | _,_,_=>false
def IP:LK→Value→Value→Bool
  | .i k,.int a _,.int b _=>decide (a=k) && decide (b=k)
  | .b,.bool _,.bool _=>true
  | .s,.string _,.string _=>true
  | _,_,_=>false
def ceq:List LK→List Value→List Value→Bool
  | k :: a,x :: xs,y :: b=>IJ k x y && ceq a xs b
  | _,_,_=>true
def cok:List LK→List Value→List Value→Bool
  | [],[],[]=>true
  | k :: a,x :: xs,y :: b=>IP k x y && cok a xs b
  | _,_,_=>false

theorem cok.len:∀ {L:List LK} {xs a:List Value},cok L xs a=true→xs.length=L.length∧a.length=L.length
  | [],[],[],_=>⟨rfl,rfl⟩
  | k :: b,x :: xs,y :: a,h=>by
    simp only[cok,gI] at h
    have:=cok.len h.2
    simp[this.1,this.2]
  | [],_ :: _,_,h=>by simp[cok] at h
  | [],[],_ :: _,h=>by simp[cok] at h
  | _ :: _,[],_,h=>by simp[cok] at h
  | _ :: _,_ :: _,[],h=>by simp[cok] at h

theorem xN:∀ {L1 a:List LK} {xs b:List Value},cok (L1++a) xs b=true→∃ c d e f,xs=c++d∧b=e++f∧cok L1 c e=true∧cok a d f=true∧ceq (L1++a) xs b=(ceq L1 c e && ceq a d f)
  | [],a,xs,b,h=>⟨[],xs,[],b,rfl,rfl,rfl,h,by simp[ceq]⟩
  | k :: L1,a,[],b,h=>by simp[cok] at h
  | k :: L1,a,x :: xs,[],h=>by simp[cok] at h
  | k :: L1,a,x :: xs,y :: b,h=>by
    simp only[List.cons_append,cok,gI] at h
    obtain⟨c,d,e,f,rfl,rfl,h1,g,i⟩:=xN h.2
    refine⟨x :: c,d,y :: e,f,rfl,rfl,by simp[cok,h.1,h1],g,?_⟩
    simp only[List.cons_append,ceq,i,Bool.and_assoc]

def GD (P:Program) (E:TypeId→Option (List LK)):List Field→Nat→Option (List LK)
  | [],_=>some []
  | f :: a,off=>
    if f.name = "_" ∨ f.offset≠off then none else
    match E f.type with
    | none=>none
    | some L=>if (T1 P f.type && L.length == 1) || Tn P f.type L.length then (GD P E a (off+L.length)).map (L ++ ·) else none

def GB (P:Program):Nat→TypeId→Option (List LK)
  | 0,_=>none
  | d+1,t=>match P.underlying t with
    | some (.int k)=>some [.i k]
    | some .bool=>some [.b]
    | some .string=>some [.s]
    | some (.struct a)=>if P.stoodInHeld t then none else GD P (GB P d) a.toList 0
    | _=>none

def mkV (P:Program) (t:TypeId) (c:List Value) (v:Value):Prop:=(T1 P t=true∧c=[v])∨(T1 P t=false∧v = .agg c.toArray)

theorem Cg {d:Nat} {E:TypeId→Option (List LK)}
    (u:∀ t L,E t=some L→∀ b c,cok L b c=true→∀ k l,mkV P t b k→mkV P t c l→∀ w,(Op.equalIn d t k l).run P w = .ok (ceq L b c) w) :
    ∀ (j:List Field) (off:Nat) (L:List LK),GD P E j off=some L→∀ (g i b c:List Value),g.length=off→i.length=off→cok L b c=true→∀ w,
      (Op.eqFields d (g++b).toArray (i++c).toArray j).run P w = .ok (ceq L b c) w
  | [],off,L,h,g,i,b,c,_,_,o,w=>by
    cases h
    cases b <;> cases c <;> simp[cok] at o
    rfl
  | f :: j,off,L,h,g,i,b,c,x,y,o,w=>by
    unfold GD at h
    split at h
    · cases h
    · rename_i z
      have K:f.name ≠ "_" := fun e=>z (.inl e)
      have A:f.offset=off:=Classical.byContradiction fun e=>z (.inr e)
      split at h
      · cases h
      · rename_i L1 M
        split at h
        · rename_i B
          cases q:GD P E j (off+L1.length) with
          | none=>simp[q] at h
          | some N=>
            simp only[q,Option.map_some,Option.some.injEq] at h
            subst h
            obtain⟨m,C,n,D,rfl,rfl,h1,O,Q⟩:=xN o
            obtain⟨F,G⟩:=cok.len h1
            have H:∀ (p c1 c2:List Value),p.length=off→c1.length=L1.length→∃ v,(part f.type (p++(c1++c2)).toArray f.offset).run P w = .ok v w∧mkV P f.type c1 v:=by
              intro p c1 c2 hp r
              rw[Bool.or_eq_true,gI] at B
              rcases B with ⟨a,s⟩ | a
              · have s:L1.length=1:=by simpa using s
                rw[s] at r
                match c1,r with
                | [v],_=>
                  refine⟨v,?_,.inl ⟨a,rfl⟩⟩
                  unfold part
                  simp[Sem.run_bind,yx a,A,← hp]
              · have R:T1 P f.type=false:=by
                  unfold Tn at a;unfold T1
                  split at a
                  · rename_i S hu;rw[hu]
                  · cases a
                refine⟨.agg c1.toArray,?_,.inr ⟨R,rfl⟩⟩
                unfold Tn at a
                split at a
                · rename_i S hu
                  have T:(isAgg f.type).run P w = .ok true w:=by simp[isAgg,run_underlying hu]
                  have U:(sizeOf f.type).run P w = .ok L1.length w:=by
                    cases I:P.info? f.type with
                    | none=>simp[I] at a
                    | some Z=>simp[sizeOf,typeInfo,I] at a ⊢;exact a
                  unfold part
                  simp only[Sem.run_bind,T,Result.andThen_ok,if_true,U,Sem.run_pure]
                  congr 2
                  rw[A]
                  apply Array.ext'
                  simp[Array.toList_extract,List.extract,← hp,← r]
                · cases a
            obtain⟨k,rx,V⟩:=H g m C x F
            obtain⟨l,W,X⟩:=H i n D y G
            unfold Op.eqFields
            simp only[if_pos K,Sem.run_bind,rx,W,Result.andThen_ok,u f.type L1 M m n h1 k l V X w]
            rw[Q]
            cases hq:ceq L1 m n with
            | false=>simp
            | true=>
              simp only[Bool.not_true,Bool.false_eq_true,if_false,Bool.true_and]
              have Y:=Cg u j (off+L1.length) N q (g++m) (i++n) C D (by simp[x,F]) (by simp[y,G]) O w
              simpa[List.append_assoc] using Y
        · cases h

theorem B9:∀ (d:Nat) (t:TypeId) (L:List LK),GB P d t=some L→∀ g i,cok L g i=true→∀ e f,mkV P t g e→mkV P t i f→∀ w,(Op.equalIn d t e f).run P w = .ok (ceq L g i) w
  | 0,t,L,h,_,_,_,_,_,_,_,_=>by simp[GB] at h
  | d+1,t,L,h,g,i,j,e,f,a,b,w=>by
    unfold GB at h
    split at h
    · rename_i k hu
      cases h
      have c:T1 P t=true:=by simp[T1,hu]
      rcases a with ⟨_,rfl⟩ | ⟨a,_⟩
      · rcases b with ⟨_,rfl⟩ | ⟨b,_⟩
        · cases e <;> cases f <;> simp[cok,IP] at j
          obtain⟨rfl,rfl⟩:=j
          rw[run_equalIn_int w d t _ _ _ _ hu];simp[ceq,IJ]
        · rw[c] at b;cases b
      · rw[c] at a;cases a
    · rename_i hu
      cases h
      have c:T1 P t=true:=by simp[T1,hu]
      rcases a with ⟨_,rfl⟩ | ⟨a,_⟩
      · rcases b with ⟨_,rfl⟩ | ⟨b,_⟩
        · cases e <;> cases f <;> simp[cok,IP] at j
          rw[run_equalIn_bool' w d t _ _ hu];simp[ceq,IJ]
        · rw[c] at b;cases b
      · rw[c] at a;cases a
    · rename_i hu
      cases h
      have c:T1 P t=true:=by simp[T1,hu]
      rcases a with ⟨_,rfl⟩ | ⟨a,_⟩
      · rcases b with ⟨_,rfl⟩ | ⟨b,_⟩
        · cases e <;> cases f <;> simp[cok,IP] at j
          rw[run_equalIn_string w d t _ _ hu];simp[ceq,IJ,seq]
        · rw[c] at b;cases b
      · rw[c] at a;cases a
    · rename_i l hu
      split at h
      · cases h
      · rename_i n
        have c:T1 P t=false:=by simp[T1,hu]
        rcases a with ⟨a,_⟩ | ⟨_,rfl⟩
        · rw[c] at a;cases a
        rcases b with ⟨b,_⟩ | ⟨_,rfl⟩
        · rw[c] at b;cases b
        have m:P.fieldsOf t=l:=by simp[Program.fieldsOf,hu]
        rw[run_equalIn_struct w d t _ _ (by rw[m,hu]) (by simpa using n),m]
        exact Cg (fun o p q=>B9 d o p q) l.toList 0 L h [] [] g i rfl rfl j w
    · cases h

def EqT (P:Program) (t:TypeId) (L:List LK):Bool:=(match P.underlying t with | some (.struct _)=>true | _=>false) && decide (GB P 10000 t=some L) && !(P.eqGuardType P.depth t)

theorem DO {t:TypeId} {L:List LK} (h:EqT P t L=true) {a b:List Value} (d:cok L a b=true) (w:World):(Op.equalIn 10000 t (.agg a.toArray) (.agg b.toArray)).run P w = .ok (ceq L a b) w:=by
  unfold EqT at h
  simp only[gI,decide_eq_true_eq] at h
  obtain⟨⟨h1,e⟩,h3⟩:=h
  have c:T1 P t=false:=by
    unfold T1;split at h1
    · rename_i hu;rw[hu]
    · cases h1
  exact B9 10000 t L e a b d _ _ (.inr ⟨c,rfl⟩) (.inr ⟨c,rfl⟩) w

theorem zj {t u:TypeId} {L:List LK} {x y:Operand} {b c:List Value} {r:Bool} (h:EqT P t L=true) (e:opv l x=some (.agg b.toArray)) (f:opv l y=some (.agg c.toArray)) (g:cok L b c=true) (i:ceq L b c=r) :
    OpQ P (.binOp .eql t x y u) l S (.bool r):=fun n a w o j d hw=>by
  have k:P.eqGuardType P.depth t=false:=by unfold EqT at h;simp only[gI] at h;simpa using h.2
  unfold execOp;simp only[j,d.eval e,d.eval f]
  simp only[Sem.run_bind,run_eqGuard_agg w .eql t x y _ _ k,Result.andThen_ok,run_eql_struct,DO h g,i];rfl
theorem sW {t u:TypeId} {L:List LK} {x y:Operand} {b c:List Value} {r:Bool} (h:EqT P t L=true) (e:opv l x=some (.agg b.toArray)) (f:opv l y=some (.agg c.toArray)) (g:cok L b c=true) (i:ceq L b c=r) :
    OpQ P (.binOp .neq t x y u) l S (.bool (!r)):=fun n a w o j d hw=>by
  have k:P.eqGuardType P.depth t=false:=by unfold EqT at h;simp only[gI] at h;simpa using h.2
  unfold execOp;simp only[j,d.eval e,d.eval f]
  simp only[Sem.run_bind,run_eqGuard_agg w .neq t x y _ _ k,Result.andThen_ok,run_neq_struct,DO h g,i];rfl

theorem y4 {n:Nat} {a:Act} {ops:Array Oper} (c:Fr n l a) {j:Nat} (h:yl ops l j=some undef):yielded ops a.tmps j=none:=by
  unfold yl at h
  unfold yielded
  cases b:(ops[j]?).bind (·.dst) with
  | none=>simp[b] at h
  | some t=>
    simp only[b,Option.bind_some] at h
    simp[c.at_ t _ h,undef]

theorem WL.nox {g:G} {k:List Item} {ops:Array Oper} {rest:List Oper} {o:Oper} {j d:Nat} {b:Bool} (e:o.guard=some (j,b)) (f:yl ops l j=some undef) (i:o.dst=some d) (m:Nat.blt d g.n=true)
    (h:WL g k ops rest ((d,undef) :: l) S):WL g k ops (o :: rest) l S:=fun a w c hw=>by
  have n:Region.wanted o (yielded ops a.tmps)=false:=by simp[Region.wanted,e,y4 c f]
  simp only[wpList,n,i]
  exact h _ _ (c.put m undef) hw
theorem WQ.nox {g:G} {k:List Item} {ops:Array Oper} {rest:List Oper} {o:Oper} {j d:Nat} {b:Bool} (e:o.guard=some (j,b)) (f:yl ops l j=some undef) (i:o.dst=some d) (m:Nat.blt d g.n=true)
    (h:WQ g k ops rest ((d,undef) :: l) S):WQ g k ops (o :: rest) l S:=fun a c=>by
  have n:Region.wanted o (yielded ops a.tmps)=false:=by simp[Region.wanted,e,y4 c f]
  simp only[wpQuiet,n,i]
  exact h _ (c.put m undef)

end
section
variable {l:Env}
def oM (l:Env):List Operand→Option (List Value)
  | []=>some []
  | x :: xs=>match opv l x,oM l xs with
    | some v,some vs=>some (v :: vs)
    | _,_=>none

theorem vf {n:Nat} {a:Act} (b:Fr n l a):∀ {xs:List Operand} {vs:List Value},oM l xs=some vs→xs.map a.eval=vs
  | [],vs,h=>by simp[oM] at h;simp[h]
  | x :: xs,vs,h=>by
    simp only[oM] at h
    split at h
    · rename_i v d h1 c
      simp only[Option.some.injEq] at h
      subst h
      simp[b.eval h1,vf b c]
    · cases h

end
theorem vQ {P:Program} {t e sz:Nat} (h:Sl P t e sz=true):P.underlying t=some (.slice e):=by
  unfold Sl at h
  split at h
  · rename_i a hu
    simp only[gI,beq_iff_eq] at h
    rw[hu,h.1]
  · cases h

theorem RSl.nilOr {e:Hp} {α:Type} {R:Hp→List Nat→List Value→α→Prop} {sz:Nat} {F:List Nat} {v:Value} {xs:List α} (h:RSl R sz e F v xs):(xs=[]∧∃ c,v = .slice none 0 c)∨∃ a c,v = .slice (some a) xs.length c:=by
  obtain⟨a,c,b,_⟩:=h.form
  cases a with
  | some a=>exact .inr ⟨a,c,b⟩
  | none=>
    by_cases d:xs=[]
    · subst d;exact .inl ⟨rfl,c,b⟩
    · obtain⟨g,f⟩:=h.addr d
      rw[f] at b;cases b

theorem mY {P:Program} {l:Env} {S:World→Prop} {t e sz u n c:Nat} {x y:Operand} {a:Option Addr} (f:Sl P t e sz=true) (g:opv l x=some (.slice a n c)) (h:opv l y=some (.slice none 0 0)):OpQ P (.binOp .eql t x y u) l S (.bool a.isNone):=fun m b w o i d hw=>by
  have hu:=vQ f
  unfold execOp;simp only[i,d.eval g,d.eval h]
  simp[eqGuard,Sem.run_bind,Lib.run_eql_slice_nil w t e a n c 0 0 hu]
theorem CR {P:Program} {l:Env} {S:World→Prop} {fn:Fn} {xs:List Operand} {vs:List Value} (b:oM l xs=some vs):OpQ P (.makeFunc fn #[] xs.toArray) l S (.func fn #[] vs.toArray):=fun n a w o c d hw=>by
  unfold execOp
  simp only[c]
  have:xs.toArray.map a.eval=vs.toArray:=by simp[vf d b]
  simp[this,Instr.makeFunc]

theorem aG {P:Program} {l:Env} {S:World→Prop} {x:Operand} {a:Addr} (c:opv l x=some (.pointer (some a))):OpQ P (.nilCheck x) l S (.pointer (some a)):=fun n b w o d e hw=>by
  unfold execOp;simp only[d,e.eval c];rfl

end Go.Proofs.YtedmfnmbjglmbaaGreat.Eng
