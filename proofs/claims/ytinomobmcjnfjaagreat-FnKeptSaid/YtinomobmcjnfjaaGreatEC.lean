/-
  The engine, part C: closed facts and the operations that leave the world.
  Nothing here names a program.
-/
import Derived.Test.YtinomobmcjnfjaaGreatEB
import Derived.Laws.StructEq
import Derived.WalkSpells
namespace Go.Proofs.YtinomobmcjnfjaaGreat.Eng
open Go.RowKit (Below wrap64)
set_option linter.unusedVariables false
set_option linter.unusedSimpArgs false

def T1 (P:Program) (t:TypeId):Bool:=match P.underlying t with | some (.struct _)=>false | some (.array _ _)=>false | some _=>true | none=>false
def Tn (P:Program) (t n:Nat):Bool:=match P.underlying t with | some (.struct _)=>(P.info? t).map (·.size) == some n | _=>false
def Fld (P:Program) (t i off:Nat):Bool:=
  match P.underlying t with
  | some (.struct fs)=>match fs[i]? with
    | some f=>f.offset == off && match P.info? f.type with | some i=>Nat.blt 0 i.size | none=>false
    | none=>false
  | _=>false
def Sl (P:Program) (t e sz:Nat):Bool:=match P.underlying t with | some (.slice e')=>e' == e && (P.info? e).map (·.size) == some sz | _=>false
def Str (P:Program) (t:Nat):Bool:=match P.underlying t with | some .string=>true | _=>false
def Fun (P:Program) (f:Nat):Bool:=match P.funcs[f]? with | some fn=>fn.body.isSome && !(fn.name == "runtime.NumGoroutine") | none=>false
def Sz (P:Program) (t n:Nat):Bool:=(P.info? t).map (·.size) == some n

section quiet
variable {P:Program} {l:Env} {S:World→Prop}

theorem ep {x:Operand} {v:Value} (h:opv l x=some v):OpQ P (.move x) l S v:=fun n a w o ho hf hw=>by
  unfold execOp; simp only [ho,hf.eval h]; rfl
theorem Bk {x:Operand} {v:Value} (h:opv l x=some v):OpQ P (.assign x) l S v:=fun n a w o ho hf hw=>by
  unfold execOp; simp only [ho,hf.eval h]; rfl
theorem ph {c x y:Operand} {u:Value} (hc:opv l c=some (.bool true)) (hx:opv l x=some u):OpQ P (.pick c x y) l S u:=fun n a w o ho hf hw=>by
  unfold execOp; simp only [ho,hf.eval hc,hf.eval hx]; rfl
theorem nT {c x y:Operand} {u:Value} (hc:opv l c=some (.bool false)) (hx:opv l y=some u):OpQ P (.pick c x y) l S u:=fun n a w o ho hf hw=>by
  unfold execOp; simp only [ho,hf.eval hc,hf.eval hx]; rfl

theorem pN {op:BinOp} {x y:Operand} {t u:TypeId} {k:IntKind} {i j:Int} {v:Value} (hx:opv l x=some (.int k i)) (hy:opv l y=some (.int k j))
    (hv:∀ w,(do eqGuard op t x y (.int k i) (.int k j); binOp op t (.int k i) (.int k j):Sem Value).run P w = .ok v w):OpQ P (.binOp op t x y u) l S v:=fun n a w o ho hf hw=>by
  unfold execOp; simp only [ho,hf.eval hx,hf.eval hy]
  simp only [Sem.run_bind,hv w]; rfl

theorem Gk {x y:Operand} {t u:TypeId} {k:IntKind} {i j:Int} (hx:opv l x=some (.int k i)) (hy:opv l y=some (.int k j)):OpQ P (.binOp .lss t x y u) l S (.bool (decide (i < j))):=
  pN hx hy fun w=>by simp [eqGuard,binOp,Op.intCmp]
theorem Gd {x y:Operand} {t u:TypeId} {k:IntKind} {i j:Int} (hx:opv l x=some (.int k i)) (hy:opv l y=some (.int k j)):OpQ P (.binOp .leq t x y u) l S (.bool (decide (i≤j))):=
  pN hx hy fun w=>by simp [eqGuard,binOp,Op.intCmp]
theorem Gn {x y:Operand} {t u:TypeId} {k:IntKind} {i j:Int} (hx:opv l x=some (.int k i)) (hy:opv l y=some (.int k j)):OpQ P (.binOp .gtr t x y u) l S (.bool (decide (j < i))):=
  pN hx hy fun w=>by simp [eqGuard,binOp,Op.intCmp]
theorem Dz {x y:Operand} {t u:TypeId} {k:IntKind} {i j:Int} (hx:opv l x=some (.int k i)) (hy:opv l y=some (.int k j)):OpQ P (.binOp .geq t x y u) l S (.bool (decide (j≤i))):=
  pN hx hy fun w=>by simp [eqGuard,binOp,Op.intCmp]
theorem FN {x y:Operand} {t u:TypeId} {k:IntKind} {i j:Int} (hx:opv l x=some (.int k i)) (hy:opv l y=some (.int k j)):OpQ P (.binOp .eql t x y u) l S (.bool (decide (i=j))):=
  pN hx hy fun w=>by simp [eqGuard,binOp,Op.intCmp]; rfl
theorem GH {x y:Operand} {t u:TypeId} {k:IntKind} {i j:Int} (hx:opv l x=some (.int k i)) (hy:opv l y=some (.int k j)):OpQ P (.binOp .neq t x y u) l S (.bool (!decide (i=j))):=
  pN hx hy fun w=>by simp [eqGuard,binOp,Op.intCmp]; rfl

theorem DS {x y:Operand} {t u:TypeId} {k:IntKind} {i j:Int} (hx:opv l x=some (.int k i)) (hy:opv l y=some (.int k j)):OpQ P (.binOp .add t x y u) l S (.int k (k.wrap (i+j))):=
  pN hx hy fun w=>by simp [eqGuard,binOp,Op.intArith]
theorem za {x y:Operand} {t u:TypeId} {k:IntKind} {i j:Int} (hx:opv l x=some (.int k i)) (hy:opv l y=some (.int k j)):OpQ P (.binOp .sub t x y u) l S (.int k (k.wrap (i - j))):=
  pN hx hy fun w=>by simp [eqGuard,binOp,Op.intArith]
theorem Gm {x y:Operand} {t u:TypeId} {k:IntKind} {i j:Int} (hx:opv l x=some (.int k i)) (hy:opv l y=some (.int k j)):OpQ P (.binOp .mul t x y u) l S (.int k (k.wrap (i*j))):=
  pN hx hy fun w=>by simp [eqGuard,binOp,Op.intArith]

theorem GB {t:TypeId} {x:Operand} {b:Bool} (hx:opv l x=some (.bool b)):OpQ P (.unOp .not t x) l S (.bool (!b)):=fun n a w o ho hf hw=>by
  unfold execOp; simp only [ho,hf.eval hx]; rfl
def seq (x y:ByteArray):Bool:=x.toList == y.toList

theorem GL {x y:Operand} {t u:TypeId} {i j:ByteArray} (hx:opv l x=some (.string i)) (hy:opv l y=some (.string j)):OpQ P (.binOp .eql t x y u) l S (.bool (seq i j)):=fun n a w o ho hf hw=>by
  unfold execOp; simp only [ho,hf.eval hx,hf.eval hy]
  simp [eqGuard,binOp,Op.stringOp,seq]
theorem GI {x y:Operand} {t u:TypeId} {i j:ByteArray} (hx:opv l x=some (.string i)) (hy:opv l y=some (.string j)):OpQ P (.binOp .neq t x y u) l S (.bool (!seq i j)):=fun n a w o ho hf hw=>by
  unfold execOp; simp only [ho,hf.eval hx,hf.eval hy]
  simp [eqGuard,binOp,Op.stringOp,seq]

theorem lX {t:TypeId} {args:Array Operand} {x:Operand} {s:ByteArray} (ht:Str P t=true) (ha:args = #[x]) (hx:opv l x=some (.string s)) :
    OpQ P (.call ⟨.builtin .len,args,#[t]⟩) l S (.int .i64 s.size):=fun n a w o ho hf hw=>by
  have hu:P.underlying t=some .string:=by unfold Str at ht; split at ht <;> simp_all
  unfold execOp; simp only [ho,ha,resolve]
  simp [invoke,builtin,Builtin.len_,hf.eval hx,Sem.run_bind,run_underlying hu,goInt]

theorem FL {t e sz:TypeId} {args:Array Operand} {x:Operand} {p:Option Addr} {m c:Nat} (ht:Sl P t e sz=true) (ha:args = #[x]) (hx:opv l x=some (.slice p m c)) :
    OpQ P (.call ⟨.builtin .len,args,#[t]⟩) l S (.int .i64 m):=fun n a w o ho hf hw=>by
  have hu:∃ e,P.underlying t=some (.slice e):=by unfold Sl at ht; split at ht <;> simp_all
  obtain ⟨e',hu⟩:=hu
  unfold execOp; simp only [ho,ha,resolve]
  simp [invoke,builtin,Builtin.len_,hf.eval hx,Sem.run_bind,run_underlying hu,goInt]

theorem o5 {α:Type} {R:Hp→List Nat→List Value→α→Prop} {sz:Nat} {Φ:Hp} {F:List Nat} {v:Value} {xs:List α} {t e sz':TypeId} {args:Array Operand} {x:Operand}
    (ht:Sl P t e sz'=true) (ha:args = #[x]) (hx:opv l x=some v) (hv:RSl R sz Φ F v xs):OpQ P (.call ⟨.builtin .len,args,#[t]⟩) l S (.int .i64 xs.length):=by
  obtain ⟨p,c,hp,_⟩:=hv.form
  exact FL ht ha (by rw [hx,hp])

theorem ab {t i off:Nat} {x:Operand} {b o:Nat} (ht:Fld P t i off=true) (hx:opv l x=some (.pointer (some ⟨b,o,none⟩))):OpQ P (.fieldAddr t x i) l S (.pointer (some ⟨b,o+off,none⟩)):=fun n a w op ho hf hw=>by
  unfold Fld at ht
  split at ht
  · rename_i fs hu
    split at ht
    · rename_i f hfi
      simp only [Bool.and_eq_true,beq_iff_eq] at ht
      obtain ⟨h1,h2⟩:=ht
      split at h2
      · rename_i ti hti
        have h2':ti.size≠0:=by simp at h2; omega
        unfold execOp; simp only [ho,hf.eval hx]
        simp [Instr.fieldAt,Sem.run_bind,run_underlying hu,hfi,Instr.sureAddr,fieldPlace,sizeOf,typeInfo,hti,h2',← h1,Addr.add_mid]
      · cases h2
    · cases ht
  · cases ht

theorem ac {α:Type} {R:Hp→List Nat→List Value→α→Prop} {sz:Nat} {Φ:Hp} {F:List Nat} {v:Value} {xs:List α} {t e:TypeId} {x ix:Operand} {i:Int} {y:α}
    (ht:Sl P t e sz=true) (hx:opv l x=some v) (hix:opv l ix=some (.int .i64 i)) (hv:RSl R sz Φ F v xs) (hi:idx xs i=some y) :
    OpQ P (.indexAddr t x ix) l S (.pointer (some ⟨sb v,so v+i.toNat*sz,none⟩)):=fun n a w o ho hf hw=>by
  obtain ⟨h0,h1,h2⟩:=a9 hi
  obtain ⟨c,hc⟩:=hv.addr (by rintro rfl; simp at h2)
  unfold Sl at ht
  split at ht
  · rename_i e' hu
    simp only [Bool.and_eq_true,beq_iff_eq] at ht
    obtain ⟨rfl,ht⟩:=ht
    cases hti:P.info? e' with
    | none=>simp [hti] at ht
    | some ti=>
      have hsz:ti.size=sz:=by simpa [hti] using ht
      have hxv:opv l x=some (.slice (some ⟨sb v,so v,none⟩) xs.length c):=by rw [hx,← hc]
      unfold execOp; simp only [ho,hf.eval hxv,hf.eval hix]
      simp [Instr.indexAt,Sem.run_bind,run_underlying hu,asIntOf,h0,h1,sizeOf,typeInfo,hti,hsz,Addr.add_mid]
  · cases ht

theorem vf {t:TypeId} (ht:T1 P t=true) (w:World):(isAgg t).run P w = .ok false w:=by
  unfold T1 at ht
  split at ht
  · cases ht
  · cases ht
  · rename_i d h1 h2 hu
    unfold isAgg
    rw [Sem.run_bind,run_underlying hu w]
    cases d <;> simp_all
  · cases ht

theorem au {t:TypeId} {x:Operand} {b o:Nat} {v:Value} (ht:T1 P t=true) (hx:opv l x=some (.pointer (some ⟨b,o,none⟩))) (hr:∀ w,S w→w.rangeAt b o [v]):OpQ P (.load t x) l S v:=fun n a w op ho hf hw=>by
  unfold execOp; simp only [ho,hf.eval hx]
  simp [Instr.loadAt,Instr.sureAddr,loadVar,Sem.run_bind,vf ht,tx (hr w hw)]

theorem aI {t n:TypeId} {x:Operand} {b o:Nat} {cs:List Value} (ht:Tn P t n=true) (hx:opv l x=some (.pointer (some ⟨b,o,none⟩))) (hr:∀ w,S w→w.rangeAt b o cs) (hn:cs.length=n):OpQ P (.load t x) l S (.agg cs.toArray):=fun m a w op ho hf hw=>by
  unfold Tn at ht
  split at ht
  · rename_i fs hu
    unfold execOp; simp only [ho,hf.eval hx]
    simp only [Sem.run_bind,run_loadAt_mid w b o t cs _ (hr w hw) hu rfl (by rw [hn]; simpa using ht)]; rfl
  · cases ht

theorem aX {t n:TypeId} {p:Tmp} {b o:Nat} {cs:List Value} (ht:Tn P t n=true) (hx:lk l p=some (.pointer (some ⟨b,o,none⟩))) (hr:∀ w,S w→w.rangeAt b o cs) (hn:cs.length=n):sE P (.cell p t) l S (.agg cs.toArray):=by
  unfold Tn at ht
  split at ht
  · rename_i fs hu
    exact ⟨⟨b,o,none⟩,hx,fun w hw=>run_loadVar_mid w b o t cs _ (hr w hw) hu rfl (by rw [hn]; simpa using ht)⟩
  · cases ht

theorem Al {x:Operand} {i:Nat} {vs:Array Value} {v:Value} (hx:opv l x=some (.tuple vs)) (hv:vs[i]?=some v):OpQ P (.extract x i) l S v:=fun n a w op ho hf hw=>by
  unfold execOp; simp only [ho,hf.eval hx]
  simp [Instr.extract,hv]

theorem jh {t:TypeId} {x ix:Operand} {s:ByteArray} {i:Int} {c:UInt8} (ht:Str P t=true) (hx:opv l x=some (.string s)) (hix:opv l ix=some (.int .i64 i)) (hi:idx s.data.toList i=some c) :
    OpQ P (.index t x ix) l S (.int .u8 c.toNat):=fun n a w o ho hf hw=>by
  obtain ⟨h0,h1,h2⟩:=a9 hi
  have hu:P.underlying t=some .string:=by unfold Str at ht; split at ht <;> simp_all
  unfold execOp; simp only [ho,hf.eval hx,hf.eval hix]
  have hlt:i.toNat < s.size:=by
    have h5:=(List.getElem?_eq_some_iff.1 h2).1
    rw [Array.length_toList] at h5
    exact h5
  have h3:s[i.toNat]?=some c:=by
    rw [getElem?_pos s i.toNat hlt]
    obtain ⟨_,h4⟩:=List.getElem?_eq_some_iff.1 h2
    rw [← h4]
    rfl
  simp [Instr.index,Sem.run_bind,run_underlying hu,asIntOf,h0,h3]

end quiet

theorem bind_some {α β:Type} {m:Option α} {f:α→Option β} {r:β} (h:m.bind f=some r):∃ x,m=some x∧f x=some r:=by
  cases m with
  | none=>cases h
  | some x=>exact ⟨x,rfl,h⟩
theorem fN {α:Type} {c:Bool} {x y z:α} (h:(if c then x else y)=z) (hc:c=true):x=z:=by subst hc; simpa using h
theorem fO {α:Type} {c:Bool} {x y z:α} (h:(if c then x else y)=z) (hc:c=false):y=z:=by subst hc; simpa using h

theorem zj {α:Type} {r:α} (h:(none:Option α)=some r):False:=by cases h
section
variable {P:Program} {l:Env} {S:World→Prop}
def Bo (P:Program) (t:Nat):Bool:=match P.underlying t with | some .bool=>true | _=>false
theorem rK {P:Program} {t:Nat} {i j:Bool} {w:World} (hu:P.underlying t=some .bool) (d:Nat):(Op.equalIn (d+1) t (.bool i) (.bool j)).run P w = .ok (i == j) w:=by
  unfold Op.equalIn
  simp only [Sem.run_bind,run_underlying hu,Result.andThen_ok,Sem.run_pure]
theorem FZ {P:Program} {x y:Operand} {t u:TypeId} {i j:Bool} (ht:Bo P t=true) (hx:opv l x=some (.bool i)) (hy:opv l y=some (.bool j)):OpQ P (.binOp .eql t x y u) l S (.bool (i == j)):=fun n a w o ho hf hw=>by
  have hu:P.underlying t=some .bool:=by unfold Bo at ht; split at ht <;> simp_all
  unfold execOp; simp only [ho,hf.eval hx,hf.eval hy]
  have he:(Op.equal t (.bool i) (.bool j)).run P w = .ok (i == j) w:=rK hu 9999
  simp [eqGuard,binOp,Sem.run_bind,he]
theorem Gq {P:Program} {x y:Operand} {t u:TypeId} {i j:Bool} (ht:Bo P t=true) (hx:opv l x=some (.bool i)) (hy:opv l y=some (.bool j)):OpQ P (.binOp .neq t x y u) l S (.bool (i != j)):=fun n a w o ho hf hw=>by
  have hu:P.underlying t=some .bool:=by unfold Bo at ht; split at ht <;> simp_all
  unfold execOp; simp only [ho,hf.eval hx,hf.eval hy]
  have he:(Op.equal t (.bool i) (.bool j)).run P w = .ok (i == j) w:=rK hu 9999
  simp [eqGuard,binOp,Sem.run_bind,he]
  cases i <;> cases j <;> rfl
end
theorem bt {v:Value} (h:v.oneCell'=true):v.cells.toList=[v]:=by cases v <;> first | rfl | (simp [Value.oneCell'] at h)
def RI (kd:IntKind) (Φ:Hp) (F:List Nat) (cs:List Value) (x:Int):Prop:=cs=[.int kd x]∧F=[]
def RB (Φ:Hp) (F:List Nat) (cs:List Value) (x:Bool):Prop:=cs=[.bool x]∧F=[]
def RS (Φ:Hp) (F:List Nat) (cs:List Value) (x:ByteArray):Prop:=cs=[.string x]∧F=[]
theorem RI.lasts {kd:IntKind}:bI (RI kd):=fun _ _ _ _ _ _ _ _ h=>h
theorem RB.lasts:bI RB:=fun _ _ _ _ _ _ _ _ h=>h
theorem RS.lasts:bI RS:=fun _ _ _ _ _ _ _ _ h=>h
theorem RI.knows {kd:IntKind}:cC (RI kd):=fun _ _ _ _ h=>h.2 ▸ Kw.nil
theorem RB.knows:cC RB:=fun _ _ _ _ h=>h.2 ▸ Kw.nil
theorem RS.knows:cC RS:=fun _ _ _ _ h=>h.2 ▸ Kw.nil
theorem RI.one {kd:IntKind}:fB (RI kd):=fun Φ F cs x h v hv=>by obtain ⟨rfl,-⟩:=h; simp at hv; subst hv; rfl
theorem RB.one:fB RB:=fun Φ F cs x h v hv=>by obtain ⟨rfl,-⟩:=h; simp at hv; subst hv; rfl
theorem RS.one:fB RS:=fun Φ F cs x h v hv=>by obtain ⟨rfl,-⟩:=h; simp at hv; subst hv; rfl

section
variable {P:Program} {l:Env} {S:World→Prop}

def Ik (P:Program) (t:Nat) (k:IntKind):Bool:=match P.underlying t with | some (.int k')=>decide (k'=k) | _=>false
theorem BH {t:Nat} {k:IntKind} (h:Ik P t k=true):P.underlying t=some (.int k):=by
  unfold Ik at h; split at h
  · rename_i k' hu; rw [hu,of_decide_eq_true h]
  · cases h

theorem qF {src dst:TypeId} {k k':IntKind} {x:Operand} {i:Int} (hs:Ik P src k=true) (hd:Ik P dst k'=true) (hx:opv l x=some (.int k i)):OpQ P (.convert src dst x) l S (.int k' (k'.wrap i)):=fun n a w o ho hf hw=>by
  unfold execOp; simp only [ho,hf.eval hx]
  simp [convert,run_underlying (BH hs),run_underlying (BH hd),Conv.intToInt]

theorem GQ {x y:Operand} {t u:TypeId} {k:IntKind} {i j:Int} (hx:opv l x=some (.int k i)) (hy:opv l y=some (.int k j)) (hj:j≠0):OpQ P (.binOp .rem t x y u) l S (.int k (i.tmod j)):=
  pN hx hy fun w=>by simp [eqGuard,binOp,Op.intDiv,hj]

def zZ (i j:Int):Option Int:=if j=0 then none else some (i.tmod j)
theorem Bj {x y:Operand} {t u:TypeId} {k:IntKind} {i j m:Int} (hx:opv l x=some (.int k i)) (hy:opv l y=some (.int k j)) (h:zZ i j=some m):OpQ P (.binOp .rem t x y u) l S (.int k m):=by
  unfold zZ at h; split at h
  · cases h
  · cases h; exact GQ hx hy (by assumption)

def uW (k:IntKind) (i j:Int):Int:=k.wrap ((BitVec.ofInt k.bits i) &&& (BitVec.ofInt k.bits j)).toNat
def Cv (k:IntKind) (i j:Int):Int:=k.wrap ((BitVec.ofInt k.bits i) ^^^ (BitVec.ofInt k.bits j)).toNat
theorem AO {x y:Operand} {t u:TypeId} {k:IntKind} {i j:Int} (hx:opv l x=some (.int k i)) (hy:opv l y=some (.int k j)):OpQ P (.binOp .and t x y u) l S (.int k (uW k i j)):=
  pN hx hy fun w=>by simp [eqGuard,binOp,Op.intBits,uW]
theorem Fq0 {x y:Operand} {t u:TypeId} {k:IntKind} {i j:Int} (hx:opv l x=some (.int k i)) (hy:opv l y=some (.int k j)):OpQ P (.binOp .xor t x y u) l S (.int k (Cv k i j)):=
  pN hx hy fun w=>by simp [eqGuard,binOp,Op.intBits,Cv]

theorem Db {op:BinOp} {x y:Operand} {t u:TypeId} {k k':IntKind} {i j:Int} {v:Value} (hx:opv l x=some (.int k i)) (hy:opv l y=some (.int k' j))
    (hv:∀ w,(do eqGuard op t x y (.int k i) (.int k' j); binOp op t (.int k i) (.int k' j):Sem Value).run P w = .ok v w):OpQ P (.binOp op t x y u) l S v:=fun n a w o ho hf hw=>by
  unfold execOp; simp only [ho,hf.eval hx,hf.eval hy]
  simp only [Sem.run_bind,hv w]; rfl
def Ae (k:IntKind) (i j:Int):Int:=i.fdiv (2 ^ (min j.toNat k.bits))
theorem Dy {x y:Operand} {t u:TypeId} {k k':IntKind} {i j:Int} (hx:opv l x=some (.int k i)) (hy:opv l y=some (.int k' j)) (hj : ¬ j < 0):OpQ P (.binOp .shr t x y u) l S (.int k (Ae k i j)):=
  Db hx hy fun w=>by simp [eqGuard,binOp,Op.shift,hj,Ae]
inductive LK | i (k:IntKind) | b | s deriving DecidableEq
def Cq:LK→Value→Value→Bool
  | .i _,.int _ a,.int _ b=>a == b
  | .b,.bool a,.bool b=>a == b
  | .s,.string a,.string b=>seq a b
  | _,_,_=>false
def Do:LK→Value→Value→Bool
  | .i k,.int k1 _,.int k2 _=>decide (k1=k) && decide (k2=k)
  | .b,.bool _,.bool _=>true
  | .s,.string _,.string _=>true
  | _,_,_=>false
def ceq:List LK→List Value→List Value→Bool
  | k :: ks,x :: xs,y :: ys=>Cq k x y && ceq ks xs ys
  | _,_,_=>true
def cok:List LK→List Value→List Value→Bool
  | [],[],[]=>true
  | k :: ks,x :: xs,y :: ys=>Do k x y && cok ks xs ys
  | _,_,_=>false

theorem cok.len:∀ {L:List LK} {xs ys:List Value},cok L xs ys=true→xs.length=L.length∧ys.length=L.length
  | [],[],[],_=>⟨rfl,rfl⟩
  | k :: ks,x :: xs,y :: ys,h=>by
    simp only [cok,Bool.and_eq_true] at h
    have:=cok.len h.2
    simp [this.1,this.2]
  | [],_ :: _,_,h=>by simp [cok] at h
  | [],[],_ :: _,h=>by simp [cok] at h
  | _ :: _,[],_,h=>by simp [cok] at h
  | _ :: _,_ :: _,[],h=>by simp [cok] at h

theorem uH:∀ {L1 L2:List LK} {xs ys:List Value},cok (L1++L2) xs ys=true→∃ x1 x2 y1 y2,xs=x1++x2∧ys=y1++y2∧cok L1 x1 y1=true∧cok L2 x2 y2=true∧ceq (L1++L2) xs ys=(ceq L1 x1 y1 && ceq L2 x2 y2)
  | [],L2,xs,ys,h=>⟨[],xs,[],ys,rfl,rfl,rfl,h,by simp [ceq]⟩
  | k :: L1,L2,[],ys,h=>by simp [cok] at h
  | k :: L1,L2,x :: xs,[],h=>by simp [cok] at h
  | k :: L1,L2,x :: xs,y :: ys,h=>by
    simp only [List.cons_append,cok,Bool.and_eq_true] at h
    obtain ⟨x1,x2,y1,y2,rfl,rfl,h1,h2,h3⟩:=uH h.2
    refine ⟨x :: x1,x2,y :: y1,y2,rfl,rfl,by simp [cok,h.1,h1],h2,?_⟩
    simp only [List.cons_append,ceq,h3,Bool.and_assoc]

def BS (P:Program) (E:TypeId→Option (List LK)):List Field→Nat→Option (List LK)
  | [],_=>some []
  | f :: fs,off=>
    if f.name = "_" ∨ f.offset≠off then none else
    match E f.type with
    | none=>none
    | some L=>if (T1 P f.type && L.length == 1) || Tn P f.type L.length then (BS P E fs (off+L.length)).map (L ++ ·) else none

def BU (P:Program):Nat→TypeId→Option (List LK)
  | 0,_=>none
  | d+1,t=>match P.underlying t with
    | some (.int k)=>some [.i k]
    | some .bool=>some [.b]
    | some .string=>some [.s]
    | some (.struct fs)=>if P.stoodInHeld t then none else BS P (BU P d) fs.toList 0
    | _=>none

def mkV (P:Program) (t:TypeId) (c:List Value) (v:Value):Prop:=(T1 P t=true∧c=[v])∨(T1 P t=false∧v = .agg c.toArray)

theorem yp {d:Nat} {E:TypeId→Option (List LK)}
    (hE:∀ t L,E t=some L→∀ cx cy,cok L cx cy=true→∀ vx vy,mkV P t cx vx→mkV P t cy vy→∀ w,(Op.equalIn d t vx vy).run P w = .ok (ceq L cx cy) w) :
    ∀ (fs:List Field) (off:Nat) (L:List LK),BS P E fs off=some L→∀ (px py cx cy:List Value),px.length=off→py.length=off→cok L cx cy=true→∀ w,
      (Op.eqFields d (px++cx).toArray (py++cy).toArray fs).run P w = .ok (ceq L cx cy) w
  | [],off,L,h,px,py,cx,cy,_,_,hc,w=>by
    cases h
    cases cx <;> cases cy <;> simp [cok] at hc
    rfl
  | f :: fs,off,L,h,px,py,cx,cy,hpx,hpy,hc,w=>by
    unfold BS at h
    split at h
    · cases h
    · rename_i hno
      have hname:f.name ≠ "_" := fun e=>hno (.inl e)
      have hoff:f.offset=off:=Classical.byContradiction fun e=>hno (.inr e)
      split at h
      · cases h
      · rename_i L1 hL1
        split at h
        · rename_i hsz
          cases hL2:BS P E fs (off+L1.length) with
          | none=>simp [hL2] at h
          | some L2=>
            simp only [hL2,Option.map_some,Option.some.injEq] at h
            subst h
            obtain ⟨x1,x2,y1,y2,rfl,rfl,h1,h2,h3⟩:=uH hc
            obtain ⟨l1,l2⟩:=cok.len h1
            have part_run:∀ (p c1 c2:List Value),p.length=off→c1.length=L1.length→∃ v,(part f.type (p++(c1++c2)).toArray f.offset).run P w = .ok v w∧mkV P f.type c1 v:=by
              intro p c1 c2 hp hl
              rw [Bool.or_eq_true,Bool.and_eq_true] at hsz
              rcases hsz with ⟨ht,hn⟩ | ht
              · have hn:L1.length=1:=by simpa using hn
                rw [hn] at hl
                match c1,hl with
                | [v],_=>
                  refine ⟨v,?_,.inl ⟨ht,rfl⟩⟩
                  unfold part
                  simp [Sem.run_bind,vf ht,hoff,← hp]
              · have hF:T1 P f.type=false:=by
                  unfold Tn at ht; unfold T1
                  split at ht
                  · rename_i fs' hu; rw [hu]
                  · cases ht
                refine ⟨.agg c1.toArray,?_,.inr ⟨hF,rfl⟩⟩
                unfold Tn at ht
                split at ht
                · rename_i fs' hu
                  have hiA:(isAgg f.type).run P w = .ok true w:=by simp [isAgg,run_underlying hu]
                  have hso:(sizeOf f.type).run P w = .ok L1.length w:=by
                    cases hti:P.info? f.type with
                    | none=>simp [hti] at ht
                    | some ti=>simp [sizeOf,typeInfo,hti] at ht ⊢; exact ht
                  unfold part
                  simp only [Sem.run_bind,hiA,Result.andThen_ok,if_true,hso,Sem.run_pure]
                  congr 2
                  rw [hoff]
                  apply Array.ext'
                  simp [Array.toList_extract,List.extract,← hp,← hl]
                · cases ht
            obtain ⟨vx,rx,mx⟩:=part_run px x1 x2 hpx l1
            obtain ⟨vy,ry,my⟩:=part_run py y1 y2 hpy l2
            unfold Op.eqFields
            simp only [if_pos hname,Sem.run_bind,rx,ry,Result.andThen_ok,hE f.type L1 hL1 x1 y1 h1 vx vy mx my w]
            rw [h3]
            cases hq:ceq L1 x1 y1 with
            | false=>simp
            | true=>
              simp only [Bool.not_true,Bool.false_eq_true,if_false,Bool.true_and]
              have ih:=yp hE fs (off+L1.length) L2 hL2 (px++x1) (py++y1) x2 y2 (by simp [hpx,l1]) (by simp [hpy,l2]) h2 w
              simpa [List.append_assoc] using ih
        · cases h

theorem ym:∀ (d:Nat) (t:TypeId) (L:List LK),BU P d t=some L→∀ cx cy,cok L cx cy=true→∀ vx vy,mkV P t cx vx→mkV P t cy vy→∀ w,(Op.equalIn d t vx vy).run P w = .ok (ceq L cx cy) w
  | 0,t,L,h,_,_,_,_,_,_,_,_=>by simp [BU] at h
  | d+1,t,L,h,cx,cy,hc,vx,vy,hx,hy,w=>by
    unfold BU at h
    split at h
    · rename_i k hu
      cases h
      have ht:T1 P t=true:=by simp [T1,hu]
      rcases hx with ⟨_,rfl⟩ | ⟨hx,_⟩
      · rcases hy with ⟨_,rfl⟩ | ⟨hy,_⟩
        · cases vx <;> cases vy <;> simp [cok,Do] at hc
          obtain ⟨rfl,rfl⟩:=hc
          rw [run_equalIn_int w d t _ _ _ _ hu]; simp [ceq,Cq]
        · rw [ht] at hy; cases hy
      · rw [ht] at hx; cases hx
    · rename_i hu
      cases h
      have ht:T1 P t=true:=by simp [T1,hu]
      rcases hx with ⟨_,rfl⟩ | ⟨hx,_⟩
      · rcases hy with ⟨_,rfl⟩ | ⟨hy,_⟩
        · cases vx <;> cases vy <;> simp [cok,Do] at hc
          rw [run_equalIn_bool' w d t _ _ hu]; simp [ceq,Cq]
        · rw [ht] at hy; cases hy
      · rw [ht] at hx; cases hx
    · rename_i hu
      cases h
      have ht:T1 P t=true:=by simp [T1,hu]
      rcases hx with ⟨_,rfl⟩ | ⟨hx,_⟩
      · rcases hy with ⟨_,rfl⟩ | ⟨hy,_⟩
        · cases vx <;> cases vy <;> simp [cok,Do] at hc
          rw [run_equalIn_string w d t _ _ hu]; simp [ceq,Cq,seq]
        · rw [ht] at hy; cases hy
      · rw [ht] at hx; cases hx
    · rename_i fs hu
      split at h
      · cases h
      · rename_i hst
        have ht:T1 P t=false:=by simp [T1,hu]
        rcases hx with ⟨hx,_⟩ | ⟨_,rfl⟩
        · rw [ht] at hx; cases hx
        rcases hy with ⟨hy,_⟩ | ⟨_,rfl⟩
        · rw [ht] at hy; cases hy
        have hf:P.fieldsOf t=fs:=by simp [Program.fieldsOf,hu]
        rw [run_equalIn_struct w d t _ _ (by rw [hf,hu]) (by simpa using hst),hf]
        exact yp (fun t' L' h'=>ym d t' L' h') fs.toList 0 L h [] [] cx cy rfl rfl hc w
    · cases h

def EqT (P:Program) (t:TypeId) (L:List LK):Bool:=(match P.underlying t with | some (.struct _)=>true | _=>false) && decide (BU P 10000 t=some L) && !(P.eqGuardType P.depth t)

theorem zV {t:TypeId} {L:List LK} (h:EqT P t L=true) {cx cy:List Value} (hc:cok L cx cy=true) (w:World):(Op.equalIn 10000 t (.agg cx.toArray) (.agg cy.toArray)).run P w = .ok (ceq L cx cy) w:=by
  unfold EqT at h
  simp only [Bool.and_eq_true,decide_eq_true_eq] at h
  obtain ⟨⟨h1,h2⟩,h3⟩:=h
  have ht:T1 P t=false:=by
    unfold T1; split at h1
    · rename_i hu; rw [hu]
    · cases h1
  exact ym 10000 t L h2 cx cy hc _ _ (.inr ⟨ht,rfl⟩) (.inr ⟨ht,rfl⟩) w

theorem xE {t u:TypeId} {L:List LK} {x y:Operand} {cx cy:List Value} {r:Bool} (h:EqT P t L=true) (hx:opv l x=some (.agg cx.toArray)) (hy:opv l y=some (.agg cy.toArray)) (hc:cok L cx cy=true) (hr:ceq L cx cy=r) :
    OpQ P (.binOp .eql t x y u) l S (.bool r):=fun n a w o ho hf hw=>by
  have hg:P.eqGuardType P.depth t=false:=by unfold EqT at h; simp only [Bool.and_eq_true] at h; simpa using h.2
  unfold execOp; simp only [ho,hf.eval hx,hf.eval hy]
  simp only [Sem.run_bind,run_eqGuard_agg w .eql t x y _ _ hg,Result.andThen_ok,run_eql_struct,zV h hc,hr]; rfl
theorem te {t u:TypeId} {L:List LK} {x y:Operand} {cx cy:List Value} {r:Bool} (h:EqT P t L=true) (hx:opv l x=some (.agg cx.toArray)) (hy:opv l y=some (.agg cy.toArray)) (hc:cok L cx cy=true) (hr:ceq L cx cy=r) :
    OpQ P (.binOp .neq t x y u) l S (.bool (!r)):=fun n a w o ho hf hw=>by
  have hg:P.eqGuardType P.depth t=false:=by unfold EqT at h; simp only [Bool.and_eq_true] at h; simpa using h.2
  unfold execOp; simp only [ho,hf.eval hx,hf.eval hy]
  simp only [Sem.run_bind,run_eqGuard_agg w .neq t x y _ _ hg,Result.andThen_ok,run_neq_struct,zV h hc,hr]; rfl

theorem ui {n:Nat} {a:Act} {ops:Array Oper} (hf:Fr n l a) {j:Nat} (h:yl ops l j=some undef):yielded ops a.tmps j=none:=by
  unfold yl at h
  unfold yielded
  cases hd:(ops[j]?).bind (·.dst) with
  | none=>simp [hd] at h
  | some t=>
    simp only [hd,Option.bind_some] at h
    simp [hf.at_ t _ h,undef]

theorem WL.nox {g:G} {k:List Item} {ops:Array Oper} {rest:List Oper} {o:Oper} {j d:Nat} {b:Bool} (hg:o.guard=some (j,b)) (hy:yl ops l j=some undef) (hd:o.dst=some d) (hn:Nat.blt d g.n=true)
    (h:WL g k ops rest ((d,undef) :: l) S):WL g k ops (o :: rest) l S:=fun a w hf hw=>by
  have hwant:Region.wanted o (yielded ops a.tmps)=false:=by simp [Region.wanted,hg,ui hf hy]
  simp only [wpList,hwant,hd]
  exact h _ _ (hf.put hn undef) hw
theorem WQ.nox {g:G} {k:List Item} {ops:Array Oper} {rest:List Oper} {o:Oper} {j d:Nat} {b:Bool} (hg:o.guard=some (j,b)) (hy:yl ops l j=some undef) (hd:o.dst=some d) (hn:Nat.blt d g.n=true)
    (h:WQ g k ops rest ((d,undef) :: l) S):WQ g k ops (o :: rest) l S:=fun a hf=>by
  have hwant:Region.wanted o (yielded ops a.tmps)=false:=by simp [Region.wanted,hg,ui hf hy]
  simp only [wpQuiet,hwant,hd]
  exact h _ (hf.put hn undef)

end
section
variable {l:Env}
def nf (l:Env):List Operand→Option (List Value)
  | []=>some []
  | x :: xs=>match opv l x,nf l xs with
    | some v,some vs=>some (v :: vs)
    | _,_=>none

theorem sF {n:Nat} {a:Act} (hf:Fr n l a):∀ {xs:List Operand} {vs:List Value},nf l xs=some vs→xs.map a.eval=vs
  | [],vs,h=>by simp [nf] at h; simp [h]
  | x :: xs,vs,h=>by
    simp only [nf] at h
    split at h
    · rename_i v vs' h1 h2
      simp only [Option.some.injEq] at h
      subst h
      simp [hf.eval h1,sF hf h2]
    · cases h

end
theorem sI {P:Program} {t e sz:Nat} (h:Sl P t e sz=true):P.underlying t=some (.slice e):=by
  unfold Sl at h
  split at h
  · rename_i e' hu
    simp only [Bool.and_eq_true,beq_iff_eq] at h
    rw [hu,h.1]
  · cases h

theorem RSl.nilOr {Φ:Hp} {α:Type} {R:Hp→List Nat→List Value→α→Prop} {sz:Nat} {F:List Nat} {v:Value} {xs:List α} (h:RSl R sz Φ F v xs):(xs=[]∧∃ c,v = .slice none 0 c)∨∃ a c,v = .slice (some a) xs.length c:=by
  obtain ⟨a,c,hv,_⟩:=h.form
  cases a with
  | some a=>exact .inr ⟨a,c,hv⟩
  | none=>
    by_cases hx:xs=[]
    · subst hx; exact .inl ⟨rfl,c,hv⟩
    · obtain ⟨c',hc⟩:=h.addr hx
      rw [hc] at hv; cases hv

theorem l5 {P:Program} {l:Env} {S:World→Prop} {t e sz u n c:Nat} {x y:Operand} {a:Option Addr} (ht:Sl P t e sz=true) (hx:opv l x=some (.slice a n c)) (hy:opv l y=some (.slice none 0 0)):OpQ P (.binOp .eql t x y u) l S (.bool a.isNone):=fun m b w o ho hf hw=>by
  have hu:=sI ht
  unfold execOp; simp only [ho,hf.eval hx,hf.eval hy]
  simp [eqGuard,Sem.run_bind,Lib.run_eql_slice_nil w t e a n c 0 0 hu]
theorem yA {P:Program} {l:Env} {S:World→Prop} {fn:Fn} {xs:List Operand} {vs:List Value} (ha:nf l xs=some vs):OpQ P (.makeFunc fn #[] xs.toArray) l S (.func fn #[] vs.toArray):=fun n a w o ho hf hw=>by
  unfold execOp
  simp only [ho]
  have:xs.toArray.map a.eval=vs.toArray:=by simp [sF hf ha]
  simp [this,Instr.makeFunc]

theorem aC {P:Program} {l:Env} {S:World→Prop} {x:Operand} {a:Addr} (hx:opv l x=some (.pointer (some a))):OpQ P (.nilCheck x) l S (.pointer (some a)):=fun n b w o ho hf hw=>by
  unfold execOp; simp only [ho,hf.eval hx]; rfl

end Go.Proofs.YtinomobmcjnfjaaGreat.Eng
