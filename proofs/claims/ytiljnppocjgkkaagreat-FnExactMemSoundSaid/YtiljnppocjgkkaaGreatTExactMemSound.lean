/- Plain laws, one after the other: PLMemSound. -/
import Derived.Test.YtiljnppocjgkkaaGreatPLib
import Derived.Test.YtiljnppocjgkkaaGreatWExactMemSoundPur
import Derived.Test.YtiljnppocjgkkaaGreatWExactMemSoundMod
/-
 Plain laws of common loops, for the cores. No program.
-/
namespace Go.Proofs.YtiljnppocjgkkaaGreat
open Eng
set_option linter.unusedVariables false
set_option linter.unusedSimpArgs false
theorem bR {α:Type} {xs ys:List α} (h:xs.length+ys.length≤4294967296):app xs ys=some (xs++ys):=by unfold app; rw [if_pos h]
theorem kf {α:Type} {ys:List α} (h:ys.length≤4294967296):app ([]:List α) ys=some ys:=by rw [bR (by simpa using h)]; rfl
theorem vn {α:Type} (f:Nat→Int→Option Bool) (xs:List α) (hl:xs.length≤4294967296) (p:α→Bool) (z:Bool) (i0:Nat)
  (hs:∀ n (i:Nat) (x:α),i0≤i→idx xs (i:Int)=some x→x∈xs→decide ((i:Int) < (xs.length:Int))=true→IntKind.i64.wrap ((i:Int)+1)=((i+1:Nat):Int)→f (n+1) i=if p x then f n ((i+1:Nat):Int) else some false)
  (he:∀ n (i:Nat),decide ((i:Int) < (xs.length:Int))=false→f (n+1) i=some z) :
  ∀ (n i:Nat),i0≤i→i≤xs.length→xs.length - i < n→f n i=some ((xs.drop i).all p && z):=by
 intro n
 induction n with
 | zero=>intro i _ _ h; omega
 | succ n ih=>
  intro i h0 hi hn
  by_cases hlt:i < xs.length
  ·rw [List.drop_eq_getElem_cons hlt,List.all_cons,hs n i xs[i] h0 (ah hlt) (List.getElem_mem hlt) (decide_eq_true (by omega)) (wr1 i (by omega)),ih (i+1) (by omega) (by omega) (by omega)]
   cases p xs[i] <;> simp
  ·rw [he n i (decide_eq_false (by omega)),List.drop_of_length_le (by omega),List.all_nil,Bool.true_and]
theorem vW {α:Type} (f:Nat→Int→Option Int) (xs:List α) (hl:xs.length≤4294967296) (p:α→Bool)
  (hs:∀ n (i:Nat) (x:α),idx xs (i:Int)=some x→x∈xs→decide ((i:Int) < (xs.length:Int))=true→IntKind.i64.wrap ((i:Int)+1)=((i+1:Nat):Int)→f (n+1) i=if p x then some (i:Int) else f n ((i+1:Nat):Int))
  (he:∀ n (i:Nat),decide ((i:Int) < (xs.length:Int))=false→f (n+1) i=some (-1)) :
  ∀ (n i:Nat),i≤xs.length→xs.length - i < n→f n i=some (match (xs.drop i).findIdx? p with | some j=>((i+j:Nat):Int) | none=>-1):=by
 intro n
 induction n with
 | zero=>intro i _ h; omega
 | succ n ih=>
  intro i hi hn
  by_cases hlt:i < xs.length
  ·rw [List.drop_eq_getElem_cons hlt,List.findIdx?_cons,hs n i xs[i] (ah hlt) (List.getElem_mem hlt) (decide_eq_true (by omega)) (wr1 i (by omega)),ih (i+1) (by omega) (by omega)]
   cases p xs[i]
   ·simp only [Bool.false_eq_true,if_false]
    cases (xs.drop (i+1)).findIdx? p with
    | none=>rfl
    | some j=>simp only [Option.map_some]; congr 2; omega
   ·simp
  ·rw [he n i (decide_eq_false (by omega)),List.drop_of_length_le (by omega)]; rfl
theorem Gj {α:Type} (xs:List α) (p:α→Bool):decide (0≤(match xs.findIdx? p with | some j=>((0+j:Nat):Int) | none=>-1))=xs.any p:=by
 cases h:xs.findIdx? p with
 | none=>
  rw [List.findIdx?_eq_none_iff] at h
  simp only [show ¬ (0:Int) ≤ -1 by omega,decide_false]
  symm; rw [List.any_eq_false]; intro x hx; simp [h x hx]
 | some j=>
  simp only [Nat.zero_add,show (0:Int)≤(j:Int) by omega,decide_true]
  rw [List.findIdx?_eq_some_iff_getElem] at h
  obtain ⟨hj,hp,_⟩:=h
  symm; rw [List.any_eq_true]; exact ⟨_,List.getElem_mem hj,hp⟩
theorem ng (a b:Bool):(if a=true then some b else some false)=some (a && b):=by cases a <;> rfl
theorem orS (a b:Bool):(if a=true then some true else some b)=some (a || b):=by cases a <;> rfl
end Go.Proofs.YtiljnppocjgkkaaGreat
/-
 Plain laws of loops over lists, one law for all. No program.
-/
namespace Go.Proofs.YtiljnppocjgkkaaGreat
open Eng
set_option linter.unusedVariables false
set_option linter.unusedSimpArgs false
theorem lp {σ α β:Type} (xs:List α) (hl:xs.length≤4294967296) (f:Nat→σ→Int→Option β) (G:List α→σ→Option β) (I:σ→List α→Prop)
  (hs:∀ n s (i:Nat) (x:α) (t:List α),xs.drop i=x :: t→x∈xs→i < xs.length→idx xs (i:Int)=some x→decide ((i:Int) < (xs.length:Int))=true→IntKind.i64.wrap ((i:Int)+1)=((i+1:Nat):Int)→I s (x :: t) →
   (∀ s',I s' t→f n s' ((i+1:Nat):Int)=G t s')→f (n+1) s i=G (x :: t) s)
  (he:∀ n s (i:Nat),i=xs.length→decide ((i:Int) < (xs.length:Int))=false→I s []→f (n+1) s i=G [] s) :
  ∀ (n i:Nat) (s:σ),i≤xs.length→xs.length - i < n→I s (xs.drop i)→f n s i=G (xs.drop i) s:=by
 intro n
 induction n with
 | zero=>intro i s _ h; omega
 | succ n ih=>
  intro i s hi hn hI
  by_cases hlt:i < xs.length
  ·have hd:=List.drop_eq_getElem_cons hlt
   rw [hd] at hI ⊢
   exact hs n s i _ _ hd (List.getElem_mem hlt) hlt (ah hlt) (decide_eq_true (by omega)) (wr1 i (by omega)) hI (fun s' hs'=>ih (i+1) s' (by omega) (by omega) hs')
  ·have hd:xs.drop i=[]:=List.drop_of_length_le (by omega)
   rw [hd] at hI ⊢
   exact he n s i (by omega) (decide_eq_false (by omega)) hI
theorem lp' {σ α β:Type} {N:Nat} (hN:1099000000000≤N) (xs:List α) (hl:xs.length≤4294967296) (f:Nat→σ→Int→Option β) (G:List α→σ→Option β) (I:σ→List α→Prop) (s:σ) (h0:I s xs)
  (hs:∀ n s (i:Nat) (x:α) (t:List α),xs.drop i=x :: t→x∈xs→i < xs.length→idx xs (i:Int)=some x→decide ((i:Int) < (xs.length:Int))=true→IntKind.i64.wrap ((i:Int)+1)=((i+1:Nat):Int)→I s (x :: t) →
   (∀ s',I s' t→f n s' ((i+1:Nat):Int)=G t s')→f (n+1) s i=G (x :: t) s)
  (he:∀ n s (i:Nat),i=xs.length→decide ((i:Int) < (xs.length:Int))=false→I s []→f (n+1) s i=G [] s):f N s 0=G xs s:=by
 have:=lp xs hl f G I hs he N 0 s (by omega) (by omega) (by simpa using h0)
 simpa using this
theorem lp0 {α β:Type} {N:Nat} (hN:1099000000000≤N) (xs:List α) (hl:xs.length≤4294967296) (f:Nat→Int→Option β) (G:List α→Option β)
  (hs:∀ n (i:Nat) (x:α) (t:List α),xs.drop i=x :: t→x∈xs→i < xs.length→idx xs (i:Int)=some x→decide ((i:Int) < (xs.length:Int))=true→IntKind.i64.wrap ((i:Int)+1)=((i+1:Nat):Int) →
   f n ((i+1:Nat):Int)=G t→f (n+1) i=G (x :: t))
  (he:∀ n (i:Nat),i=xs.length→decide ((i:Int) < (xs.length:Int))=false→f (n+1) i=G []):f N 0=G xs:=by
 have:=lp' (σ:=Unit) hN xs hl (fun n _ i=>f n i) (fun t _=>G t) (fun _ _=>True) () trivial (fun n _ i x t h1 h2 h3 h4 h5 h6 _ h8=>hs n i x t h1 h2 h3 h4 h5 h6 (h8 () trivial)) (fun n _ i h1 h2 _=>he n i h1 h2)
 simpa using this
theorem LQ (a b:Bool):(if (!a)=true then some true else some b)=some (!a || b):=by cases a <;> rfl
def zv:aQ:=⟨0,0,⟨#[]⟩⟩
def ua (p:List aC) (n:ByteArray):aQ × Bool:=match p.find? (fun b=>seq b.Name n) with
 | some b=>(b.V,true)
 | none=>(zv,false)
theorem Ab (b:aC) (p:List aC) (n:ByteArray):ua (b :: p) n=if seq b.Name n=true then (b.V,true) else ua p n:=by
 unfold ua; rw [List.find?_cons]
 cases seq b.Name n <;> simp
theorem J9 {N:Nat} (hN:1099000000000≤N) (p:List aC) (n:ByteArray) (hl:p.length≤4294967296):oU N p n=some (ua p n):=by
 unfold oU
 have:∀ (k i:Nat),i≤p.length→p.length - i < k→fO N p n k i=some (ua (p.drop i) n):=by
  intro k
  induction k with
  | zero=>intro i _ h; omega
  | succ k ih=>
   intro i hi hk
   simp only [fO]
   by_cases hlt:i < p.length
   ·have c1:decide ((i:Int) < (p.length:Int))=true:=decide_eq_true (by omega)
    rw [List.drop_eq_getElem_cons hlt,Ab]
    simp only [c1,if_true,ah hlt,Option.bind_some,wr1 i (by omega),ih (i+1) (by omega) (by omega)]
    cases seq p[i].Name n <;> rfl
   ·have c1:decide ((i:Int) < (p.length:Int))=false:=decide_eq_false (by omega)
    simp only [c1,Bool.false_eq_true,if_false]
    rw [List.drop_of_length_le (by omega)]; rfl
 exact this N 0 (by omega) (by omega)
def cV (b0:List aC):List bk→List aQ→List aC→List aC × Bool
 | a :: as,v :: vs,s=>
  if a.K=2 then (if bc a.V v=true then cV b0 as vs s else (b0,false))
  else if a.K=1 then (if (ua s a.S).2=true then (if bc (ua s a.S).1 v=true then cV b0 as vs s else (b0,false)) else cV b0 as vs (s++[⟨a.S,v⟩]))
  else cV b0 as vs s
 | _,_,s=>(s,true)
theorem CI {N:Nat} (hN:1099000000000≤N) (p:aq) (f:aw) (b:List aC) (he:p.Args.length=f.Fields.length) (hl:p.Args.length≤1048576) (hb:b.length≤2147483648):∀ (n i:Nat) (s:List aC),i≤p.Args.length→p.Args.length - i < n→s.length≤2147483648+i →
  ev N p f b n s i=some (cV b (p.Args.drop i) (f.Fields.drop i) s):=by
 intro n
 induction n with
 | zero=>intro i s _ h; omega
 | succ n ih=>
  intro i s hi hn hs
  simp only [ev]
  by_cases hlt:i < p.Args.length
  ·have c1:decide ((i:Int) < (p.Args.length:Int))=true:=decide_eq_true (by omega)
   have hlt':i < f.Fields.length:=by omega
   rw [List.drop_eq_getElem_cons hlt,List.drop_eq_getElem_cons hlt',cV]
   simp only [c1,if_true,ah hlt,ah hlt',Option.bind_some,J9 hN s _ (show s.length≤4294967296 by omega),kf (show b.length≤4294967296 by omega),bR (show s.length+[(⟨p.Args[i].S,f.Fields[i]⟩:aC)].length≤4294967296 by simp; omega),wr1 i (by omega),ng,orS]
   have ih1:=ih (i+1) s (by omega) (by omega) (by omega)
   have ih2:=ih (i+1) (s++[⟨p.Args[i].S,f.Fields[i]⟩]) (by omega) (by omega) (by simp; omega)
   by_cases k2:p.Args[i].K=2
   ·have k1 : ¬ p.Args[i].K=1:=by omega
    simp only [k2,k1,decide_true,decide_false,if_true,if_false,Bool.true_and,Bool.false_and,Bool.or_false,Bool.false_eq_true,Option.bind_some,show ¬ (2:Int)=1 by omega]
    cases bc p.Args[i].V f.Fields[i] with
    | true=>simpa using ih1
    | false=>simp
   ·by_cases k1:p.Args[i].K=1
    ·simp only [k1,decide_true,decide_false,if_true,if_false,Bool.true_and,Bool.false_and,Bool.false_or,Bool.false_eq_true,Option.bind_some,show ¬ (1:Int)=2 by omega]
     cases (ua s p.Args[i].S).2 with
     | true=>
      simp only [if_true,Bool.not_true,Bool.true_and,Bool.false_eq_true,if_false]
      cases bc (ua s p.Args[i].S).1 f.Fields[i] with
      | true=>simpa using ih1
      | false=>simp
     | false=>simpa using ih2
    ·simp only [k1,k2,decide_false,if_false,Bool.false_and,Bool.false_or,Bool.or_false,Bool.false_eq_true,Option.bind_some]
     simpa using ih1
  ·have c1:decide ((i:Int) < (p.Args.length:Int))=false:=decide_eq_false (by omega)
   simp only [c1,Bool.false_eq_true,if_false]
   rw [List.drop_of_length_le (by omega)]
   rfl
def bL (p:aq) (f:aw) (b:List aC):List aC × Bool:=if seq p.Kind f.Kind=true∧p.Args.length=f.Fields.length then cV b p.Args f.Fields b else (b,false)
theorem Ek {N:Nat} (hN:1099000000000≤N) (p:aq) (f:aw) (b:List aC) (hl:p.Args.length≤1048576) (hb:b.length≤2147483648):iX N p f b=some (bL p f b):=by
 unfold iX bL
 rw [kf (by omega)]
 simp only [Option.bind_some,orS]
 cases hk:seq p.Kind f.Kind with
 | false=>simp
 | true=>
  by_cases he:p.Args.length=f.Fields.length
  ·have he':decide ((p.Args.length:Int)=(f.Fields.length:Int))=true:=decide_eq_true (by omega)
   have:=(CI hN p f b he hl hb N 0 b (by omega) (by omega) (by omega))
   simp only [he',he,Bool.not_true,Bool.or_false,Bool.false_eq_true,if_false,true_and,if_true]
   simpa using this
  ·have he':decide ((p.Args.length:Int)=(f.Fields.length:Int))=false:=decide_eq_false (by omega)
   simp [he',he]
theorem pN {b0:List aC}:∀ (as:List bk) (vs:List aQ) (s:List aC),(cV b0 as vs s).1.length≤b0.length∨(cV b0 as vs s).1.length≤s.length+as.length
 | [],vs,s=>.inr (by simp [cV])
 | a :: as,[],s=>.inr (by simp [cV])
 | a :: as,v :: vs,s=>by
  have h1:=pN (b0:=b0) as vs s
  have h2:=pN (b0:=b0) as vs (s++[⟨a.S,v⟩])
  simp only [List.length_append,List.length_cons,List.length_nil] at h1 h2 ⊢
  unfold cV
  split
  ·split
   ·omega
   ·exact .inl (Nat.le_refl _)
  ·split
   ·split
    ·split
     ·omega
     ·exact .inl (Nat.le_refl _)
    ·omega
   ·omega
theorem qT (p:aq) (f:aw) (b:List aC):(bL p f b).1.length≤b.length+p.Args.length:=by
 unfold bL
 split
 ·have:=pN (b0:=b) p.Args f.Fields b; omega
 ·simp
def eD (l:List aq):Nat:=(l.map fun p=>p.Args.length).sum
theorem gK (p:aq) (t:List aq):eD (p :: t)=p.Args.length+eD t:=by simp [eD]
theorem BO (n:Nat):∀ (l:List aq),eD (l.take n)≤eD l:=by
 induction n with
 | zero=>intro l; simp [eD]
 | succ n ih=>
  intro l
  cases l with
  | nil=>simp
  | cons p t=>rw [List.take_succ_cons,gK,gK]; have:=ih t; omega
def pos (l:List aq):List aq:=l.filter fun p=>!p.Not
theorem uH:∀ (l:List aq),eD (pos l)≤eD l
 | []=>by simp [pos]
 | p :: t=>by
  have:=uH t
  unfold pos at this ⊢
  rw [List.filter_cons,gK]
  split
  ·rw [gK]; omega
  ·omega
theorem Ig (l:List aq):(l.filter fun p=>p.Not == false)=pos l:=by
 unfold pos; congr 1; funext p; cases p.Not <;> rfl
def De:aw:=⟨⟨#[]⟩,[]⟩
def aI (xs:List ao) (v:Int):aw × Bool:=match xs.find? (fun x=>decide (x.Id=v)) with | some x=>(x.F,true) | none=>(De,false)
theorem uA (x:ao) (xs:List ao) (v:Int):aI (x :: xs) v=if x.Id=v then (x.F,true) else aI xs v:=by
 unfold aI
 rw [List.find?_cons]
 by_cases h:x.Id=v <;> simp [h]
theorem Dv {xs:List ao} (hx:∀ x∈xs,x.F.Fields.length≤1048576) (v:Int):(aI xs v).1.Fields.length≤1048576:=by
 unfold aI
 split
 ·rename_i x h; exact hx x (List.mem_of_find?_eq_some h)
 ·simp [De]
def cE (xs:List ao):List aq→List Int→List aC→List aC × Bool
 | [],[],l=>(l,true)
 | p :: t,v :: ids,l=>if (aI xs v).2=true∧(bL p (aI xs v).1 l).2=true then cE xs t ids (bL p (aI xs v).1 l).1 else ([],false)
 | _,_,_=>([],false)
theorem ww {xs:List ao}:∀ (ps:List aq) (ids:List Int) (l:List aC),(cE xs ps ids l).1.length≤l.length+eD ps
 | [],[],l=>by simp [cE]
 | [],v :: ids,l=>by simp [cE]
 | p :: t,[],l=>by simp [cE]
 | p :: t,v :: ids,l=>by
  have h1:=qT p (aI xs v).1 l
  have h2:=ww (xs:=xs) t ids (bL p (aI xs v).1 l).1
  rw [gK]
  unfold cE
  split
  ·omega
  ·simp
def xm (p:aq) (l:List aC) (xs:List ao):Nat:=xs.countP fun x=>(bL p x.F l).2
theorem Ar (p:aq) (l:List aC) (xs:List ao):xm p l xs≤xs.length:=List.countP_le_length
def iJ:List bk→List aQ
 | []=>[]
 | a :: t=>if a.K=2 then a.V :: iJ t else iJ t
def ats:Nat→List bk→List Int
 | _,[]=>[]
 | i,a :: t=>if a.K=2 then (i:Int) :: ats (i+1) t else ats (i+1) t
def aJ (p:aq):ak:=⟨p.Kind,(p.Args.length:Int),iJ p.Args,ats 0 p.Args⟩
theorem wJ:∀ (l:List bk),(iJ l).length≤l.length
 | []=>by simp [iJ]
 | a :: t=>by have:=wJ t; unfold iJ; split <;> simp <;> omega
theorem Eb:∀ (l:List bk) (i:Nat),(ats i l).length≤l.length
 | [],_=>by simp [ats]
 | a :: t,i=>by have:=Eb t (i+1); unfold ats; split <;> simp <;> omega
theorem GS {N:Nat} (hN:1099000000000≤N) (p:aq) (hl:p.Args.length≤1048576):mB N p=some (aJ p):=by
 have lp:∀ (n i:Nat) (cs:List aQ) (as:List Int),i≤p.Args.length→p.Args.length - i < n→cs.length≤i→as.length≤i →
   ed N p n cs as i=some ⟨p.Kind,(p.Args.length:Int),cs++iJ (p.Args.drop i),as++ats i (p.Args.drop i)⟩:=by
  intro n
  induction n with
  | zero=>intro i _ _ _ h; omega
  | succ n ih=>
   intro i cs as hi hn h1 h2
   by_cases hlt:i < p.Args.length
   ·have c1:decide ((i:Int) < (p.Args.length:Int))=true:=decide_eq_true (by omega)
    rw [List.drop_eq_getElem_cons hlt]
    simp only [ed,c1,if_true,ah hlt,Option.bind_some,wr1 i (by omega),iJ,ats]
    by_cases hk:p.Args[i].K=2
    ·simp only [hk,decide_true,if_true,bR (show cs.length+[p.Args[i].V].length≤4294967296 by simp; omega),bR (show as.length+[(i:Int)].length≤4294967296 by simp; omega),Option.bind_some]
     rw [ih (i+1) _ _ (by omega) (by omega) (by simp; omega) (by simp; omega)]; simp
    ·simp only [hk,decide_false,Bool.false_eq_true,if_false]
     exact ih (i+1) _ _ (by omega) (by omega) (by omega) (by omega)
   ·have c1:decide ((i:Int) < (p.Args.length:Int))=false:=decide_eq_false (by omega)
    rw [List.drop_of_length_le (by omega)]
    simp only [ed,c1,Bool.false_eq_true,if_false,iJ,ats,List.append_nil]
 have:=lp N 0 [] [] (by omega) (by omega) (by simp) (by simp)
 unfold mB aJ
 simpa using this
theorem IF (x y:aQ):bc x y=decide (x=y):=jU x y
def jr (a:ak):Prop:=a.Consts.length≤1048576∧a.At.length≤1048576
theorem G9 {N:Nat} (hN:1099000000000≤N) (x y:List Int) (hl:x.length≤4294967296):dt N x y=some (decide (x=y)):=by
 unfold dt
 by_cases c:x.length=y.length
 ·rw [if_neg (by simp; omega)]
  refine (iu (cB N x y) x y c (by omega) (fun a b=>some (decide (a=b))) (fun a _ b _=>rfl) (fun k i=>rfl) N 0 (by omega) (by omega)).trans ?_
  simp
 ·rw [if_pos (by simp; omega)]
  have : ¬ x=y:=fun e=>c (by rw [e])
  simp [this]
theorem IN {N:Nat} (hN:1099000000000≤N) (x y:List aQ) (hl:x.length≤4294967296):bt N x y=some (decide (x=y)):=by
 unfold bt
 by_cases c:x.length=y.length
 ·rw [if_neg (by simp; omega)]
  refine (iu (aT N x y) x y c (by omega) (fun a b=>some (decide (a=b))) (fun a _ b _=>rfl) (fun k i=>by simp only [aT,IF,Option.bind_some]) N 0 (by omega) (by omega)).trans ?_
  simp
 ·rw [if_pos (by simp; omega)]
  have : ¬ x=y:=fun e=>c (by rw [e])
  simp [this]
theorem HE {N:Nat} (hN:1099000000000≤N) (x y:ak) (h:jr x):jj N x y=some (decide (x=y)):=by
 unfold jj
 simp only [G9 hN _ _ (show x.At.length≤4294967296 by have:=h.2; omega),IN hN _ _ (show x.Consts.length≤4294967296 by have:=h.1; omega),Option.bind_some,ng,dD]
 obtain ⟨a,b,c,d⟩:=x; obtain ⟨e,f,g,k⟩:=y
 simp only [ak.mk.injEq,← Bool.decide_and,and_assoc]
def iA (fs:List aQ):List Int→List aQ→Bool
 | [],_=>true
 | _ :: _,[]=>false
 | x :: t,c :: cs=>(decide (0≤x) && (decide (x < (fs.length:Int)) && decide (idx fs x=some c))) && iA fs t cs
def eu (a:ak) (f:aw):Bool:=(seq f.Kind a.Kind && decide ((f.Fields.length:Int)=a.N)) && iA f.Fields a.At a.Consts
theorem FO {N:Nat} (hN:1099000000000≤N) (a:ak) (f:aw) (h:a.At.length≤1048576):om N a f=some (eu a f):=by
 have lp:∀ (n i:Nat),i≤a.At.length→a.At.length - i < n→fP N a f n i=some (iA f.Fields (a.At.drop i) (a.Consts.drop i)):=by
  intro n
  induction n with
  | zero=>intro i _ h; omega
  | succ n ih=>
   intro i hi hn
   simp only [fP]
   by_cases hlt:i < a.At.length
   ·have c1:decide ((i:Int) < (a.At.length:Int))=true:=decide_eq_true (by omega)
    rw [List.drop_eq_getElem_cons hlt]
    simp only [c1,if_true,ah hlt,Option.bind_some,wr1 i (by omega),ih (i+1) (by omega) (by omega)]
    by_cases hc:i < a.Consts.length
    ·have c2:decide ((a.Consts.length:Int)≤(i:Int))=false:=decide_eq_false (by omega)
     rw [List.drop_eq_getElem_cons hc,iA]
     by_cases h0:a.At[i] < 0
     ·simp [h0,c2,show ¬ 0≤a.At[i] by omega]
     ·by_cases h1:(f.Fields.length:Int)≤a.At[i]
      ·simp [h0,h1,show ¬ a.At[i] < (f.Fields.length:Int) by omega]
      ·obtain ⟨j,hj⟩:∃ j:Nat,a.At[i]=(j:Int):=⟨a.At[i].toNat,by omega⟩
       have hjl:j < f.Fields.length:=by omega
       rw [hj]
       rw [hj] at h0 h1
       simp only [h0,h1,c2,decide_false,Bool.false_eq_true,if_false,Option.bind_some,ah hjl,ah hc,jU,Option.some.injEq]
       by_cases he:f.Fields[j]=a.Consts[i] <;> simp [he,hjl]
    ·have c2:decide ((a.Consts.length:Int)≤(i:Int))=true:=decide_eq_true (by omega)
     rw [List.drop_of_length_le (show a.Consts.length≤i by omega),iA]
     by_cases h0:a.At[i] < 0
     ·simp [h0,c2]
     ·by_cases h1:(f.Fields.length:Int)≤a.At[i] <;> simp [h0,h1,show a.Consts.length≤i by omega]
   ·have c1:decide ((i:Int) < (a.At.length:Int))=false:=decide_eq_false (by omega)
    rw [List.drop_of_length_le (show a.At.length≤i by omega)]
    simp only [c1,Bool.false_eq_true,if_false,iA]
 have l0:=lp N 0 (by omega) (by omega)
 rw [List.drop_zero,List.drop_zero,show ((0:Nat):Int)=0 from rfl] at l0
 unfold om eu
 rw [l0]
 cases seq f.Kind a.Kind <;> by_cases hl:(f.Fields.length:Int)=a.N <;> simp [hl]
theorem ur (f:Nat→Int→Option Bool) (n0:Nat) (hm:n0≤4611686018427387903) (e:Nat→Bool) (z:Bool)
  (h:∀ k (i:Nat),i < n0→f (k+1) i=if e i then f k (IntKind.i64.wrap ((i:Int)+1)) else some false) (hz:∀ k (i:Nat),i=n0→f (k+1) i=some z) :
  ∀ (n i:Nat),i≤n0→n0 - i < n→f n i=some (((List.range n0).drop i).all e && z):=by
 intro n
 induction n with
 | zero=>intro i _ h; omega
 | succ n ih=>
  intro i hi hn
  by_cases hlt:i < n0
  ·rw [h n i hlt,List.drop_eq_getElem_cons (by simpa using hlt),List.getElem_range,List.all_cons]
   cases he:e i with
   | false=>simp
   | true=>simp only [if_true,Bool.true_and]; rw [wr1 i (by omega),ih (i+1) (by omega) (by omega)]
  ·have:i=n0:=by omega
   rw [hz n i this,List.drop_of_length_le (by simp; omega)]
   simp
theorem in0 (N:Nat) (a b c:Int):cW N a b c=some (decide (b≤a) && decide (a≤c)):=by
 unfold cW
 by_cases h:b≤a <;> simp [h]
theorem in1 (N:Nat) (a b c:Int):cr N a b c=some (decide (b≤a) && decide (a≤c)):=by
 unfold cr
 by_cases h:b≤a <;> simp [h]
theorem wrU (y:UInt8):IntKind.i64.wrap (y.toNat:Int)=(y.toNat:Int):=wr (by omega) (by have:=y.toNat_lt; omega)
def iR (y:UInt8):Bool:=(decide (97≤(y.toNat:Int)) && decide ((y.toNat:Int)≤122)) || (decide (48≤(y.toNat:Int)) && decide ((y.toNat:Int)≤57)) || decide ((y.toNat:Int)=95)
theorem vI (N:Nat) (y:UInt8):gD N (y.toNat:Int)=some (iR y):=by
 unfold gD iR
 simp only [wrU,in0,Option.bind_some]
 by_cases h1:(decide (97≤(y.toNat:Int)) && decide ((y.toNat:Int)≤122))=true
 ·simp [h1]
 ·rw [if_neg h1]
  simp only [Option.bind_some]
  rw [Bool.eq_false_iff.2 h1,Bool.false_or]
  by_cases h2:(decide (48≤(y.toNat:Int)) && decide ((y.toNat:Int)≤57))=true
  ·simp [h2]
  ·rw [if_neg h2,Bool.eq_false_iff.2 h2,Bool.false_or]; rfl
theorem C0 (N:Nat) (y:UInt8):fZ N (y.toNat:Int)=some (iR y):=by
 unfold fZ iF pB iR
 generalize (y.toNat:Int)=n
 rw [ng,ng,Option.bind_some,Option.bind_some,Option.bind_some,Option.bind_some,orS,Option.bind_some,orS]
 rfl
def sM (y:UInt8):Bool:=decide (97≤(y.toNat:Int)) && decide ((y.toNat:Int)≤122)
def nc (s:ByteArray):Bool:=((List.range s.size).drop 0).all (fun i=>match s.data.toList[i]? with | some y=>iR y | none=>false)
theorem kY (s:ByteArray):s.data.toList.length=s.size:=rfl
theorem GM {N:Nat} (hN:1048578≤N) (s:ByteArray) (hs:s.size≤1048576):m7 N s=some (nc s && decide ((s.size:Int)≤20)):=by
 unfold m7
 refine ur (fun n i=>e9 N s n i) s.size (by omega) _ _ (fun k i hi=>?_) (fun k i hi=>?_) N 0 (by omega) (by omega)
 ·have hi':i < s.data.toList.length:=by rw [kY]; exact hi
  simp only [e9,ah hi',Option.bind_some,vI,List.getElem?_eq_getElem hi']
  rw [if_pos (by simp; omega)]
  cases iR s.data.toList[i] <;> simp
 ·simp only [e9]
  rw [if_neg (by simp; omega)]
theorem CS {N:Nat} (hN:1048578≤N) (s:ByteArray) (n:Int) (hs:s.size≤1048576):lB N s n=some (nc s && decide ((s.size:Int)≤n)):=by
 unfold lB
 have:dT N s N 0=some (nc s && true):=by
  refine ur (fun n i=>dT N s n i) s.size (by omega) _ _ (fun k i hi=>?_) (fun k i hi=>?_) N 0 (by omega) (by omega)
  ·have hi':i < s.data.toList.length:=by rw [kY]; exact hi
   simp only [dT,ah hi',Option.bind_some,C0,List.getElem?_eq_getElem hi']
   rw [if_pos (by simp; omega)]
   cases iR s.data.toList[i] <;> simp
  ·simp only [dT]
   rw [if_neg (by simp; omega)]
 rw [this]
 by_cases h:n < (s.size:Int)
 ·rw [if_pos (by simpa using h),decide_eq_false (by omega),Bool.and_false]
 ·rw [if_neg (by simpa using h),decide_eq_true (show (s.size:Int)≤n by omega)]
theorem K6 {N:Nat} (hN:1048578≤N) (s:ByteArray) (hs:s.size≤1048576):eW N s=some ((match s.data.toList[0]? with | some y=>sM y | none=>false) && (nc s && decide ((s.size:Int)≤12))):=by
 unfold eW
 rw [CS hN s 12 hs]
 by_cases h:0 < s.size
 ·have hi':0 < s.data.toList.length:=by rw [kY]; exact h
  have hidx:idx s.data.toList 0=some s.data.toList[0]:=by simpa using ah (i:=0) hi'
  rw [if_pos (by simpa using h),hidx,List.getElem?_eq_getElem hi']
  have:iF N (s.data.toList[0].toNat:Int)=some (sM s.data.toList[0]):=by
   unfold iF sM
   generalize (s.data.toList[0].toNat:Int)=n
   by_cases h1:97≤n <;> simp [h1]
  simp only [Option.bind_some,this]
  cases sM s.data.toList[0] <;> simp
 ·rw [if_neg (by simpa using h),List.getElem?_eq_none (by rw [kY]; omega)]
  rfl
theorem Is {N:Nat} (hN:1048578≤N) (s:ByteArray) (hs:s.size≤1048576):dF N s=some ((match s.data.toList[0]? with | some y=>sM y | none=>false) && (nc s && decide ((s.size:Int)≤12))):=by
 unfold dF
 have:=ur (fun n i=>e8 N s n i) s.size (by omega) (fun i=>match s.data.toList[i]? with | some y=>iR y && (decide (¬ i=0) || sM y) | none=>false) (decide (1≤(s.size:Int)) && decide ((s.size:Int)≤12)) (fun k i hi=>by
  have hi':i < s.data.toList.length:=by rw [kY]; exact hi
  simp only [e8,ah hi',Option.bind_some,vI,List.getElem?_eq_getElem hi',wrU,in0]
  rw [if_pos (by simp; omega)]
  have h0:decide ((i:Int)=0)=decide (i=0):=by rw [decide_eq_decide]; omega
  rw [h0]
  unfold sM
  simp only [ng,orS,Option.bind_some]
  generalize iR s.data.toList[i]=a
  generalize (decide (97≤(s.data.toList[i].toNat:Int)) && decide ((s.data.toList[i].toNat:Int)≤122))=b
  cases a <;> cases b <;> by_cases hz:i=0 <;> simp [hz]) (fun k i hi=>by
  simp only [e8,in0,Option.bind_some]
  rw [if_neg (by simp; omega)]) N 0 (by omega) (by omega)
 rw [show e8 N s N 0=_ from this]
 congr 1
 unfold nc
 simp only [List.drop_zero]
 cases hsz:s.size with
 | zero=>
  rw [List.getElem?_eq_none (by rw [kY]; omega)]
  simp
 | succ n=>
  have hi':0 < s.data.toList.length:=by rw [kY]; omega
  rw [List.getElem?_eq_getElem hi',List.range_succ_eq_map]
  simp only [List.all_cons,List.getElem?_eq_getElem hi',List.all_map,Function.comp_def,Nat.succ_eq_add_one]
  have:∀ i,(match s.data.toList[i+1]? with | some y=>iR y && (decide (¬ i+1=0) || sM y) | none=>false)=(match s.data.toList[i+1]? with | some y=>iR y | none=>false):=by
   intro i; cases s.data.toList[i+1]? <;> simp
  simp only [this]
  have h1:decide (1≤((n+1:Nat):Int))=true:=by simp; omega
  simp only [h1,Bool.true_and,not_true,decide_false,Bool.false_or]
  cases iR s.data.toList[0] <;> cases sM s.data.toList[0] <;> simp
theorem HY {N:Nat} (hN:1048578≤N) (v:aQ) (hs:v.S.size≤1048576):nt N v=jT N v:=by
 unfold nt jT
 rw [GM hN _ hs,CS hN _ _ hs,in0,in1]
 by_cases h1:v.K=1
 ·simp [h1]
 ·by_cases h2:v.K=2
  ·simp only [h2,ng,orS,Option.bind_some]
   cases decide (v.N=0) <;> cases nc v.S <;> cases decide ((v.S.size:Int)≤20) <;> rfl
  ·simp [h1,h2]
def sJ (v:aQ):Bool:=if v.K=1 then (decide (-1000000000≤v.N) && decide (v.N≤1000000000)) && seq v.S ⟨#[]⟩ else if v.K=2 then decide (v.N=0) && (nc v.S && decide ((v.S.size:Int)≤20)) else false
theorem DL {N:Nat} (hN:1048578≤N) (v:aQ) (hs:v.S.size≤1048576):jT N v=some (sJ v):=by
 unfold jT sJ
 rw [CS hN _ _ hs,in1]
 by_cases h1:v.K=1
 ·simp only [h1,decide_true,if_true,Option.bind_some]
  cases (decide (-1000000000≤v.N) && decide (v.N≤1000000000)) <;> simp
 ·by_cases h2:v.K=2
  ·by_cases h3:v.N=0 <;> simp [h2,h3]
  ·simp [h1,h2]
def rn (y:UInt8):Bool:=decide (65≤(y.toNat:Int)) && decide ((y.toNat:Int)≤90)
theorem DP (N:Nat) (y:UInt8):jQ N (y.toNat:Int)=some (rn y):=by
 unfold jQ rn; cases decide (65≤(y.toNat:Int)) <;> rfl
theorem DV (N:Nat) (y:UInt8):lW N (y.toNat:Int)=some (rn y):=by
 unfold lW rn; rw [wrU,in0]; rfl
def BY (s:ByteArray):Bool:=match s.data.toList with
 | []=>false
 | b :: t=>rn b && (t.all (fun y=>iR y || rn y) && decide ((s.size:Int)≤12))
theorem Kq {N:Nat} (hN:1099000000000≤N) (s:ByteArray) (hs:s.size≤1048576):qC N s=some (BY s):=by
 have hsz:s.size=s.data.toList.length:=rfl
 have lp:=vn (fC N s) s.data.toList (by omega) (fun y=>iR y || rn y) true 0 (fun n i y _ hx _ hc hw=>by
  rw [← hsz] at hc
  simp only [fC,hc,if_true,hx,Option.bind_some,C0,DP,hw]
  cases iR y <;> cases rn y <;> rfl) (fun n i hc=>by rw [← hsz] at hc; simp only [fC,hc,Bool.false_eq_true,if_false])
 unfold qC BY
 cases hd:s.data.toList with
 | nil=>
  have:s.size=0:=by rw [hsz,hd]; rfl
  rw [this]; rfl
 | cons b t=>
  have h1:s.size=t.length+1:=by rw [hsz,hd]; rfl
  have c1:decide ((s.size:Int) < 1)=false:=decide_eq_false (by omega)
  have:=lp N 0 (by omega) (by omega) (by omega)
  rw [hd] at this
  have hi:idx (b :: t) 0=some b:=rfl
  simp only [c1,Bool.false_eq_true,if_false,Option.bind_some,hi,DP]
  by_cases c2:(s.size:Int)≤12
  ·have c3:decide (12 < (s.size:Int))=false:=decide_eq_false (by omega)
   simp only [c2,c3,decide_true,Bool.and_true,Bool.false_eq_true,if_false,Option.bind_some]
   cases hb:rn b with
   | false=>rfl
   | true=>
    simp only [Bool.not_true,Bool.false_eq_true,if_false,Bool.true_and]
    refine this.trans ?_
    simp [hb]
  ·have c3:decide (12 < (s.size:Int))=true:=decide_eq_true (by omega)
   simp only [c2,c3,decide_false,Bool.and_false,if_true,Option.bind_some]
theorem Ky {N:Nat} (hN:1099000000000≤N) (s:ByteArray) (hs:s.size≤1048576):m9 N s=some (BY s):=by
 have hsz:s.size=s.data.toList.length:=rfl
 have lp:=vn (cL N s) s.data.toList (by omega) (fun y=>iR y || rn y) (decide (1≤(s.size:Int)) && decide ((s.size:Int)≤12)) 1 (fun n i y h1 hx _ hc hw=>by
  rw [← hsz] at hc
  have h0:decide ((i:Int)=0)=false:=decide_eq_false (by omega)
  simp only [cL,hc,if_true,hx,Option.bind_some,vI,DV,hw,h0,Bool.false_eq_true,if_false]
  cases iR y <;> cases rn y <;> rfl) (fun n i hc=>by rw [← hsz] at hc; simp only [cL,hc,Bool.false_eq_true,if_false,in0,Option.bind_some])
 unfold m9 BY
 obtain ⟨n,rfl⟩:∃ n,N=n+1:=⟨N - 1,by omega⟩
 cases hd:s.data.toList with
 | nil=>
  have:s.size=0:=by rw [hsz,hd]; rfl
  simp only [cL,this,in0]; rfl
 | cons b t=>
  have h1:s.size=t.length+1:=by rw [hsz,hd]; rfl
  have c1:decide ((0:Int) < (s.size:Int))=true:=decide_eq_true (by omega)
  have:=lp n 1 (by omega) (by omega) (by omega)
  rw [hd] at this
  have hi:idx (b :: t) 0=some b:=rfl
  simp only [cL,c1,if_true,hd,hi,Option.bind_some,DV,decide_true]
  cases hb:rn b with
  | false=>rfl
  | true=>
   simp only [Bool.not_true,Bool.false_eq_true,if_false,Option.bind_some,Bool.true_and]
   rw [show IntKind.i64.wrap ((0:Int)+1)=((1:Nat):Int) from wr1 0 (by omega)]
   refine this.trans ?_
   simp [show (1:Int)≤(s.size:Int) by omega]
def sT (a:bk):Prop:=a.S.size≤1048576∧a.V.S.size≤1048576
def qm (a:bk):Bool:=if a.K=1 then BY a.S && bc a.V ⟨0,0,⟨#[]⟩⟩ else if a.K=2 then sJ a.V && seq a.S ⟨#[]⟩ else if a.K=3 then seq a.S ⟨#[]⟩ && bc a.V ⟨0,0,⟨#[]⟩⟩ else false
theorem DZ {N:Nat} (hN:1099000000000≤N) (a:bk) (h:sT a):jP N a=some (qm a):=by
 unfold jP qm
 rw [Ky hN _ h.1,HY (by omega) _ h.2,DL (by omega) _ h.2]
 simp only [Option.bind_some,ng,decide_eq_true_eq]
 split <;> (try split) <;> (try split) <;> rfl
theorem Ia {N:Nat} (hN:1099000000000≤N) (a:bk) (h:sT a):nv N a=some (qm a):=by
 unfold nv qm
 rw [Kq hN _ h.1,DL (by omega) _ h.2]
 simp only [Option.bind_some,ng,decide_eq_true_eq,Bool.and_comm]
 split <;> (try split) <;> (try split) <;> simp [Bool.and_comm]
def sR (a:bk):Bool:=qm a && !decide (a.K=3)
theorem Ej {N:Nat} (hN:1099000000000≤N) (a:bk) (h:sT a):iG N a=some (sR a):=by
 unfold iG sR; simp only [DZ hN a h,Option.bind_some,ng]
theorem vh {N:Nat} (hN:1099000000000≤N) (a:bk) (h:sT a):gG N a=some (sR a):=by
 unfold gG sR; simp only [Ia hN a h,Option.bind_some,ng,Bool.and_comm]
def xG (e:bv):Prop:=e.Op.size≤1048576∧sT e.L∧sT e.R
def kO (e:bv):Bool:=if seq e.Op ⟨#[]⟩ then sR e.L && o5 e.R ⟨0,⟨#[]⟩,⟨0,0,⟨#[]⟩⟩⟩ else (seq e.Op ⟨#[43]⟩ || seq e.Op ⟨#[45]⟩) && (sR e.L && sR e.R)
theorem II {N:Nat} (hN:1099000000000≤N) (e:bv) (h:xG e):o1 N e=some (kO e):=by
 unfold o1 hJ kO
 simp only [Ej hN _ h.2.1,Ej hN _ h.2.2,Option.bind_some,ng]
 cases seq e.Op ⟨#[]⟩ <;> cases seq e.Op ⟨#[43]⟩ <;> cases seq e.Op ⟨#[45]⟩ <;> rfl
theorem J1 {N:Nat} (hN:1099000000000≤N) (e:bv) (h:xG e):oA N e=some (kO e):=by
 unfold oA ia kO
 simp only [vh hN _ h.2.1,vh hN _ h.2.2,Option.bind_some,ng]
 cases seq e.Op ⟨#[]⟩ <;> cases seq e.Op ⟨#[43]⟩ <;> cases seq e.Op ⟨#[45]⟩ <;> rfl
def ft (s:ByteArray):Bool:=(match s.data.toList[0]? with | some y=>sM y | none=>false) && (nc s && decide ((s.size:Int)≤12))
theorem q9 {N:Nat} (hN:1099000000000≤N) (s:ByteArray) (hs:s.size≤1048576):dF N s=some (ft s):=Is (by omega) s hs
theorem qk {N:Nat} (hN:1099000000000≤N) (s:ByteArray) (hs:s.size≤1048576):eW N s=some (ft s):=K6 (by omega) s hs
def Af (a:bY):Prop:=a.Name.size≤1048576∧a.Undo.size≤1048576∧a.Args.length≤1048576∧∀ e∈a.Args,xG e
theorem Jb {N:Nat} (hN:1099000000000≤N) (xs:List bv) (hl:xs.length≤1048576) (h:∀ e∈xs,xG e):jC N xs=some (xs.all kO && decide ((xs.length:Int)≤5)):=by
 unfold jC
 have:=vn (eT N xs) xs (by omega) kO (decide ((xs.length:Int)≤5)) 0 (fun n i y _ hx hm hc hw=>by
  simp only [eT,hc,if_true,hx,Option.bind_some,II hN y (h y hm),hw]; cases kO y <;> rfl) (fun n i hc=>by simp only [eT,hc,Bool.false_eq_true,if_false]) N 0 (by omega) (by omega) (by omega)
 simpa using this
theorem IU {N:Nat} (hN:1099000000000≤N) (a:bY) (h:Af a):jw N a=some (ft a.Name && (a.Args.all kO && decide ((a.Args.length:Int)≤5))):=by
 obtain ⟨h1,h2,h3,h4⟩:=h
 unfold jw
 have:=vn (dL N a) a.Args (by omega) kO true 0 (fun n i y _ hx hm hc hw=>by
  simp only [dL,hc,if_true,hx,Option.bind_some,J1 hN y (h4 y hm),hw]; cases kO y <;> rfl) (fun n i hc=>by simp only [dL,hc,Bool.false_eq_true,if_false]) N 0 (by omega) (by omega) (by omega)
 have this':dL N a N 0=some (a.Args.all kO):=by simpa using this
 simp only [qk hN _ h1,Option.bind_some,this']
 cases ft a.Name with
 | false=>rfl
 | true=>
  by_cases c:(a.Args.length:Int)≤5
  ·have c':decide (5 < (a.Args.length:Int))=false:=decide_eq_false (by omega)
   simp only [c,c',decide_true,Bool.and_true,Bool.true_and,Bool.not_true,Bool.false_eq_true,if_false,Option.bind_some]
  ·have c':decide (5 < (a.Args.length:Int))=true:=decide_eq_true (by omega)
   simp only [c,c',decide_false,Bool.and_false,Bool.not_true,Bool.false_eq_true,if_false,if_true,Option.bind_some]
def rj (a:bY):Bool:=
 let na:=ft a.Name && (a.Args.all kO && decide ((a.Args.length:Int)≤5))
 let bare:=seq a.Name ⟨#[]⟩ && decide ((a.Args.length:Int)=0)
 if a.Kind=1 then na && decide (a.N=0) && seq a.Undo ⟨#[]⟩
 else if a.Kind=2 then bare && (decide (0≤a.N) && decide (a.N≤7)) && seq a.Undo ⟨#[]⟩
 else if a.Kind=3 then na && decide (a.N=0) && (seq a.Undo ⟨#[]⟩ || ft a.Undo)
 else if a.Kind=4 then na && (decide (0≤a.N) && decide (a.N≤100000)) && seq a.Undo ⟨#[]⟩
 else if a.Kind=5∨a.Kind=6 then bare && decide (a.N=0) && seq a.Undo ⟨#[]⟩
 else false
theorem KL {N:Nat} (hN:1099000000000≤N) (a:bY) (h:Af a):qy N a=some (rj a):=by
 obtain ⟨h1,h2,h3,h4⟩:=h
 unfold qy iU rj
 simp only [Jb hN _ h3 h4,q9 hN _ h1,q9 hN _ h2,in0,Option.bind_some,ng,orS,decide_eq_true_eq]
 generalize ft a.Name=n; generalize a.Args.all kO=e; generalize ft a.Undo=u; generalize seq a.Name ⟨#[]⟩=sn; generalize seq a.Undo ⟨#[]⟩=su
 by_cases k1:a.Kind=1
 ·simp [k1] <;> (cases n <;> cases e <;> simp)
 by_cases k3:a.Kind=3
 ·simp [k3] <;> (cases n <;> cases e <;> simp)
 by_cases k4:a.Kind=4
 ·simp [k4] <;> (cases n <;> cases e <;> simp)
 by_cases k2:a.Kind=2
 ·simp [k2] <;> (cases sn <;> cases su <;> simp)
 by_cases k5:a.Kind=5
 ·simp [k5] <;> (cases sn <;> cases su <;> simp)
 ·by_cases k6:a.Kind=6
  ·simp [k6] <;> (cases sn <;> cases su <;> simp)
  ·simp [k1,k2,k3,k4,k5,k6]
theorem KD {N:Nat} (hN:1099000000000≤N) (a:bY) (h:Af a):q8 N a=some (rj a):=by
 have hi:=IU hN a h
 obtain ⟨h1,h2,h3,h4⟩:=h
 unfold q8 iY qZ rj
 simp only [hi,qk hN _ h2,in1,Option.bind_some,ng,orS,decide_eq_true_eq]
 generalize ft a.Name=n; generalize a.Args.all kO=e; generalize ft a.Undo=u; generalize seq a.Name ⟨#[]⟩=sn; generalize seq a.Undo ⟨#[]⟩=su
 by_cases k1:a.Kind=1
 ·simp [k1] <;> (cases n <;> cases e <;> simp)
 by_cases k3:a.Kind=3
 ·simp [k3] <;> (cases n <;> cases e <;> simp)
 by_cases k4:a.Kind=4
 ·simp [k4] <;> (cases n <;> cases e <;> simp)
 by_cases k2:a.Kind=2
 ·simp [k2] <;> (cases sn <;> cases su <;> simp)
 by_cases k5:a.Kind=5
 ·simp [k5] <;> (cases sn <;> cases su <;> simp)
 ·by_cases k6:a.Kind=6
  ·simp [k6] <;> (cases sn <;> cases su <;> simp)
  ·simp [k1,k2,k3,k4,k5,k6]
def zH (p:aq):Prop:=p.Kind.size≤1048576∧p.Args.length≤1048576∧∀ a∈p.Args,sT a
def mY (p:aq):Bool:=ft p.Kind && (decide ((p.Args.length:Int)≤5) && p.Args.all qm)
theorem KT {N:Nat} (hN:1099000000000≤N) (p:aq) (h:zH p):qn N p=some (mY p):=by
 obtain ⟨h1,h2,h3⟩:=h
 have lp:=lp0 hN p.Args (by omega) (fB N p) (fun t=>some (t.all qm)) (fun n i x t g1 g2 g3 g4 g5 g6 g7=>by
  simp only [fB,g5,if_true,g4,Option.bind_some,Ia hN x (h3 x g2),g6,g7,List.all_cons]; cases qm x <;> rfl) (fun n i g1 g2=>by simp only [fB,g2,Bool.false_eq_true,if_false]; rfl)
 unfold qn mY
 simp only [qk hN _ h1,Option.bind_some,lp]
 by_cases c:(p.Args.length:Int)≤5
 ·have c':decide (5 < (p.Args.length:Int))=false:=decide_eq_false (by omega)
  simp only [c,c',decide_true]; cases ft p.Kind <;> simp
 ·have c':decide (5 < (p.Args.length:Int))=true:=decide_eq_true (by omega)
  simp only [c,c',decide_false]; cases ft p.Kind <;> simp
theorem Lb {N:Nat} (hN:1099000000000≤N) (p:aq) (h:zH p):qa N p=some (mY p):=by
 obtain ⟨h1,h2,h3⟩:=h
 have lp:=lp0 hN p.Args (by omega) (fF N p) (fun t=>some (t.all qm && (ft p.Kind && decide ((p.Args.length:Int)≤5)))) (fun n i x t g1 g2 g3 g4 g5 g6 g7=>by
  simp only [fF,g5,if_true,g4,Option.bind_some,DZ hN x (h3 x g2),g6,g7,List.all_cons]; cases qm x <;> simp) (fun n i g1 g2=>by
  simp only [fF,g2,Bool.false_eq_true,if_false,q9 hN _ h1,Option.bind_some,ng,List.all_nil,Bool.true_and])
 unfold qa mY
 rw [lp]
 generalize ft p.Kind=a; generalize p.Args.all qm=b; generalize decide ((p.Args.length:Int)≤5)=c
 cases a <;> cases b <;> cases c <;> rfl
def xo (c:bA):Prop:=sT c.L∧sT c.R
def pL (c:bA):Bool:=(decide (1≤c.Op) && decide (c.Op≤3)) && (sR c.L && sR c.R)
theorem J2 {N:Nat} (hN:1099000000000≤N) (c:bA) (h:xo c):oz N c=some (pL c):=by
 unfold oz pL
 simp only [in1,vh hN _ h.1,vh hN _ h.2,Option.bind_some,ng,Bool.and_assoc]
theorem IX {N:Nat} (hN:1099000000000≤N) (c:bA) (h:xo c):nO N c=some (pL c):=by
 unfold nO pL sR
 simp only [in0,DZ hN _ h.1,DZ hN _ h.2,Option.bind_some,ng]
 generalize qm c.L=a; generalize qm c.R=b; generalize (decide (c.L.K=3))=d; generalize (decide (c.R.K=3))=e; generalize (decide (1≤c.Op) && decide (c.Op≤3))=f
 cases a <;> cases b <;> cases d <;> cases e <;> cases f <;> rfl
instance LX (v:ByteArray) (xs:List ByteArray):Decidable (v∈xs):=@List.instDecidableMemOfLawfulBEq _ instBEqOfDecidableEq _ v xs
theorem Iv {N:Nat} (hN:1099000000000≤N) (xs:List ByteArray) (v:ByteArray) (hl:xs.length≤4294967296):lI N xs v=some (decide (v∈xs)):=by
 unfold lI
 refine lp0 hN xs hl _ (fun t=>some (decide (v∈t))) (fun n i x t h1 h2 h3 h4 h5 h6 h7=>?_) (fun n i h1 h2=>?_)
 ·simp only [gP,h5,if_true,h4,Option.bind_some,h6,h7,dD]
  by_cases h:x=v
  ·simp [h]
  ·have h' : ¬ v=x:=fun e=>h e.symm
   simp [h,h']
 ·simp only [gP,h2,Bool.false_eq_true,if_false]; simp
def cI (s:List ByteArray) (v:ByteArray):List ByteArray:=if v∈s then s else s++[v]
theorem tl (s:List ByteArray) (v:ByteArray):(cI s v).length≤s.length+1:=by unfold cI; split <;> simp
theorem FA {s:List ByteArray} {v x:ByteArray}:x∈cI s v↔x∈s∨x=v:=by
 unfold cI; split
 ·rename_i h
  constructor
  ·exact .inl
  ·rintro (h' | rfl)
   ·exact h'
   ·exact h
 ·simp
theorem tZ {x:ByteArray}:∀ {vs s:List ByteArray},x∈vs.foldl cI s↔x∈s∨x∈vs
 | [],s=>by simp
 | v :: vs,s=>by rw [List.foldl_cons,tZ,FA,List.mem_cons,or_assoc]
theorem Cq {s:List ByteArray} {v:ByteArray} (h:v∈s):cI s v=s:=by unfold cI; rw [if_pos h]
theorem lz:∀ (vs s:List ByteArray),(vs.foldl cI s).length≤s.length+vs.length
 | [],s=>by simp
 | v :: vs,s=>by have:=lz vs (cI s v); have:=tl s v; simp only [List.foldl_cons,List.length_cons]; omega
theorem CW (s u:List ByteArray) (v:ByteArray):(cI u v).foldl cI s=cI (u.foldl cI s) v:=by
 by_cases h:v∈u
 ·rw [Cq h,Cq (tZ.2 (.inr h))]
 ·have:cI u v=u++[v]:=by unfold cI; rw [if_neg h]
  rw [this,List.foldl_append]; rfl
theorem uG:∀ (vs u s:List ByteArray),(vs.foldl cI u).foldl cI s=vs.foldl cI (u.foldl cI s)
 | [],u,s=>rfl
 | v :: vs,u,s=>by rw [List.foldl_cons,uG vs (cI u v) s,CW,List.foldl_cons]
theorem CH (vs s:List ByteArray):(vs.foldl cI []).foldl cI s=vs.foldl cI s:=uG vs [] s
def cj:List bk→List ByteArray
 | []=>[]
 | a :: t=>if a.K=1 then a.S :: cj t else cj t
theorem gz:∀ (l:List bk),(cj l).length≤l.length
 | []=>by simp [cj]
 | a :: t=>by have:=gz t; unfold cj; split <;> simp <;> omega
theorem rQ {x:ByteArray}:∀ {l:List bk},x∈cj l↔∃ a∈l,a.K=1∧a.S=x
 | []=>by simp [cj]
 | a :: t=>by
  unfold cj
  split
  ·rename_i h; simp [rQ,h,eq_comm]
  ·rename_i h; simp [rQ,h]
theorem JZ {N:Nat} (hN:1099000000000≤N) (p:aq) (hl:p.Args.length≤1048576):oR N p=some ((cj p.Args).foldl cI []):=by
 unfold oR
 refine lp' hN p.Args (by omega) (eM N p) (fun t s=>some ((cj t).foldl cI s)) (fun s t=>s.length+t.length≤4294967290) [] (by simp; omega) (fun n s i x t h1 h2 h3 h4 h5 h6 hI ih=>?_) (fun n s i h1 h2 hI=>?_)
 ·simp only [List.length_cons] at hI
  simp only [eM,h5,if_true,h4,Option.bind_some,h6,cj,Iv hN s x.S (by omega)]
  by_cases h:x.K=1
  ·simp only [h,decide_true,if_true,Option.bind_some,List.foldl_cons]
   have:=ih (cI s x.S) (by have:=tl s x.S; omega)
   unfold cI at this ⊢
   by_cases hm:x.S∈s
   ·simp only [hm,if_true] at this
    simpa [hm] using this
   ·simp only [hm,if_false] at this
    simp only [hm,decide_false,Bool.not_false,if_true,bR (show s.length+[x.S].length≤4294967296 by simp; omega),Option.bind_some,if_false]
    exact this
  ·simp only [h,decide_false,Bool.false_eq_true,if_false,Option.bind_some]
   exact ih _ (by omega)
 ·simp only [eM,h2,Bool.false_eq_true,if_false]; rfl
def eA:List aq→List ByteArray
 | []=>[]
 | p :: t=>if p.Not then eA t else cj p.Args++eA t
def j4 (l:List aq):Nat:=(l.map fun p=>p.Args.length).sum
theorem th:∀ (l:List aq),(eA l).length≤j4 l
 | []=>by simp [eA,j4]
 | p :: t=>by
  have h1:=th t
  have h2:=gz p.Args
  have h3:j4 (p :: t)=p.Args.length+j4 t:=by simp [j4]
  rw [h3]
  unfold eA
  split
  ·omega
  ·rw [List.length_append]; omega
theorem EE {N:Nat} (hN:1099000000000≤N) (r:ac) (hl:r.Pats.length≤1048576) (ha:j4 r.Pats≤1048576) (hp:∀ p∈r.Pats,p.Args.length≤1048576):jM N r=some ((eA r.Pats).foldl cI []):=by
 unfold jM
 refine lp' hN r.Pats (by omega) (cl N r) (fun t s=>some ((eA t).foldl cI s)) (fun s t=>s.length+j4 t≤4294967290) [] (by simp; omega) (fun n s i x t h1 h2 h3 h4 h5 h6 hI ih=>?_) (fun n s i h1 h2 hI=>?_)
 ·have hI':s.length+(x.Args.length+j4 t)≤4294967290:=by simpa [j4] using hI
  have hpx:=hp x h2
  simp only [cl,h5,if_true,h4,Option.bind_some,JZ hN x hpx,eA]
  have hvl:=lz (cj x.Args) []
  have hal:=gz x.Args
  simp only [List.length_nil,Nat.zero_add] at hvl
  have key:cw N r i (cl N r n) ((cj x.Args).foldl cI []) N s 0=if x.Not then some ((eA t).foldl cI s) else some ((eA t).foldl cI (((cj x.Args).foldl cI []).foldl cI s)):=by
   cases hx:x.Not with
   | true=>
    obtain ⟨m,rfl⟩:∃ m,N=m+1:=⟨N - 1,by omega⟩
    have ih0:=ih s (by omega)
    simp only [cw,h4,Option.bind_some,hx,Bool.not_true,h6,ih0]
    split <;> rfl
   | false=>
    refine lp' hN ((cj x.Args).foldl cI []) (by omega) (cw N r i (cl N r n) ((cj x.Args).foldl cI [])) (fun u s=>some ((eA t).foldl cI (u.foldl cI s))) (fun s u=>s.length+u.length+j4 t≤4294967290) s (by omega) (fun n' s' i' y u g1 g2 g3 g4 g5 g6 gI gih=>?_) (fun n' s' i' g1 g2 gI=>?_)
    ·simp only [List.length_cons] at gI
     simp only [cw,g5,if_true,h4,Option.bind_some,hx,Bool.not_false,g4,Iv hN s' y (by omega),List.foldl_cons,g6]
     have:=gih (cI s' y) (by have:=tl s' y; omega)
     unfold cI at this ⊢
     by_cases hm:y∈s'
     ·simp only [hm,if_true] at this
      simpa [hm] using this
     ·simp only [hm,if_false] at this
      simp only [hm,decide_false,Bool.not_false,if_true,bR (show s'.length+[y].length≤4294967296 by simp; omega),Option.bind_some,if_false]
      exact this
    ·simp only [cw,g2,Bool.false_eq_true,if_false,Option.bind_some,h6]
     exact ih s' (by simp at gI; omega)
  rw [show (cw N r i (cl N r n) ((cj x.Args).foldl cI []) N s 0)=_ from key]
  cases hx:x.Not with
  | true=>simp
  | false=>simp [List.foldl_append,CH]
 ·simp only [cl,h2,Bool.false_eq_true,if_false]; rfl
def gi (r:ac):List ByteArray:=(eA r.Pats).foldl cI []
theorem zY {r:ac} (h:j4 r.Pats≤1048576):(gi r).length≤1048576:=by
 have h1:=lz (eA r.Pats) []
 have h2:=th r.Pats
 unfold gi; simp at h1; omega
theorem KB {N:Nat} (hN:1099000000000≤N) (xs:List ByteArray) (v:ByteArray) (hl:xs.length≤4294967296):∃ r,cD N xs v=some r∧decide (0≤r)=decide (v∈xs):=by
 unfold cD
 have:=vW (aV N xs v) xs hl (fun x=>seq v x) (fun n i x hx _ hc hw=>by simp only [aV,hc,if_true,hx,Option.bind_some,hw]) (fun n i hc=>by simp only [aV,hc,Bool.false_eq_true,if_false]) N 0 (by omega) (by omega)
 rw [List.drop_zero,show ((0:Nat):Int)=0 from rfl] at this
 refine ⟨_,this,?_⟩
 rw [Gj,Bool.eq_iff_iff,List.any_eq_true,decide_eq_true_eq]
 simp only [dD,decide_eq_true_eq]
 constructor
 ·rintro ⟨x,hx,rfl⟩; exact hx
 ·intro h; exact ⟨v,h,rfl⟩
theorem HN {N:Nat} (hN:1099000000000≤N) (xs:List ByteArray) (v:ByteArray) (hl:xs.length≤4294967296):bC N xs v=some (decide (v∈xs)):=by
 unfold bC
 obtain ⟨r,h1,h2⟩:=KB hN xs v hl
 rw [h1,Option.bind_some,h2]
theorem Hh {N:Nat} (hN:1099000000000≤N) (s:List ByteArray) (v:ByteArray) (hl:s.length≤4294967295):lV N s v=some (cI s v):=by
 unfold lV cI
 rw [HN hN s v (by omega),Option.bind_some]
 by_cases h:v∈s
 ·simp [h]
 ·simp only [h,decide_false,Bool.false_eq_true,if_false,bR (show s.length+[v].length≤4294967296 by simp; omega),Option.bind_some]
theorem uf {N:Nat} (hN:1099000000000≤N) (l:List bk) (s:List ByteArray) (hl:s.length+l.length≤4294967290):iL N s l=some ((cj l).foldl cI s):=by
 unfold iL
 refine lp' hN l (by omega) (ef N l) (fun t s=>some ((cj t).foldl cI s)) (fun s t=>s.length+t.length≤4294967290) s hl (fun n s i x t h1 h2 h3 h4 h5 h6 hI ih=>?_) (fun n s i h1 h2 hI=>?_)
 ·simp only [List.length_cons] at hI
  simp only [ef,h5,if_true,h4,Option.bind_some,h6,cj,Hh hN s x.S (by omega)]
  by_cases h:x.K=1
  ·simp only [h,decide_true,if_true,List.foldl_cons]
   exact ih _ (by have:=tl s x.S; omega)
  ·simp only [h,decide_false,Bool.false_eq_true,if_false]
   exact ih _ (by omega)
 ·simp only [ef,h2,Bool.false_eq_true,if_false]; rfl
theorem ED {N:Nat} (hN:1099000000000≤N) (r:ac) (hl:r.Pats.length≤1048576) (ha:j4 r.Pats≤1048576):jJ N r=some ((eA r.Pats).foldl cI []):=by
 unfold jJ
 refine lp' hN r.Pats (by omega) (em N r) (fun t s=>some ((eA t).foldl cI s)) (fun s t=>s.length+j4 t≤4294967290) [] (by simp; omega) (fun n s i x t h1 h2 h3 h4 h5 h6 hI ih=>?_) (fun n s i h1 h2 hI=>?_)
 ·have hI':s.length+(x.Args.length+j4 t)≤4294967290:=by simpa [j4] using hI
  simp only [em,h5,if_true,h4,Option.bind_some,h6,eA,uf hN x.Args s (by omega)]
  cases hx:x.Not with
  | true=>simpa using ih s (by omega)
  | false=>
   have h1:=gz x.Args
   have h2:=lz (cj x.Args) s
   simpa [List.foldl_append] using ih _ (show ((cj x.Args).foldl cI s).length+j4 t≤4294967290 by omega)
 ·simp only [em,h2,Bool.false_eq_true,if_false]; rfl
def ai:List aq→Nat
 | []=>0
 | p :: t=>if p.Not then ai t else ai t+1
theorem fJ:∀ (l:List aq),ai l≤l.length
 | []=>by simp [ai]
 | p :: t=>by have:=fJ t; unfold ai; split <;> simp <;> omega
theorem DW {N:Nat} (hN:1099000000000≤N) (r:ac) (hl:r.Pats.length≤1048576):iW N r=some (ai r.Pats:Int):=by
 unfold iW
 have:=lp' hN r.Pats (by omega) (cN N r) (fun t s=>some (s+(ai t:Int))) (fun s t=>0≤s∧s+t.length≤1048576) (0:Int) (by simp; omega) (fun n s i x t h1 h2 h3 h4 h5 h6 hI ih=>by
  simp only [List.length_cons] at hI
  simp only [cN,h5,if_true,h4,Option.bind_some,h6,ai]
  cases hx:x.Not with
  | true=>simpa using ih s (by omega)
  | false=>
   rw [wr (n:=s+1) (by omega) (by omega)]
   have:=ih (s+1) (by omega)
   simp only [Bool.not_false,if_true,this,Bool.false_eq_true,if_false]
   congr 1; omega) (fun n s i h1 h2 hI=>by simp only [cN,h2,Bool.false_eq_true,if_false,ai]; simp)
 simpa using this
theorem DS {N:Nat} (hN:1099000000000≤N) (r:ac) (hl:r.Pats.length≤1048576):gL N r=some (ai r.Pats:Int):=by
 unfold gL
 have:=lp' hN r.Pats (by omega) (cQ N r) (fun t s=>some (s+(ai t:Int))) (fun s t=>0≤s∧s+t.length≤1048576) (0:Int) (by simp; omega) (fun n s i x t h1 h2 h3 h4 h5 h6 hI ih=>by
  simp only [List.length_cons] at hI
  simp only [cQ,h5,if_true,h4,Option.bind_some,h6,ai]
  cases hx:x.Not with
  | true=>simpa using ih s (by omega)
  | false=>
   rw [wr (n:=s+1) (by omega) (by omega)]
   have:=ih (s+1) (by omega)
   simp only [Bool.not_false,if_true,this,Bool.false_eq_true,if_false]
   congr 1; omega) (fun n s i h1 h2 hI=>by simp only [cQ,h2,Bool.false_eq_true,if_false,ai]; simp)
 simpa using this
def m5 (vs:List ByteArray) (a:bk):Bool:=!decide (a.K=1) || decide (a.S∈vs)
theorem DQ {N:Nat} (hN:1099000000000≤N) (a:bk) (vs:List ByteArray) (h:vs.length≤4294967296):gx N a vs=some (m5 vs a):=by
 unfold gx m5
 simp only [Iv hN vs a.S h,Option.bind_some,LQ]
def go (c:Nat):Nat→List aq→Bool
 | _,[]=>true
 | i,p :: t=>mY p && ((p.Not == decide (c≤i)) && go c (i+1) t)
def iH (l:List aq):Bool:=(decide (1≤l.length) && decide (l.length≤6)) && ((decide (1≤ai l) && decide (ai l≤3)) && go (ai l) 0 l)
theorem IZ {N:Nat} (hN:1099000000000≤N) (r:ac) (hl:r.Pats.length≤1048576) (hp:∀ p∈r.Pats,zH p):oa N r=some (iH r.Pats):=by
 have hc:=DS hN r hl
 have lp:∀ (n i:Nat),i≤r.Pats.length→r.Pats.length - i < n→dK N r n i=some (go (ai r.Pats) i (r.Pats.drop i)):=by
  intro n
  induction n with
  | zero=>intro i _ h; omega
  | succ n ih=>
   intro i hi hn
   by_cases hlt:i < r.Pats.length
   ·have c1:decide ((i:Int) < (r.Pats.length:Int))=true:=decide_eq_true (by omega)
    rw [List.drop_eq_getElem_cons hlt]
    simp only [dK,c1,if_true,ah hlt,Option.bind_some,KT hN _ (hp _ (List.getElem_mem hlt)),hc,wr1 i (by omega),ih (i+1) (by omega) (by omega),go]
    have hd:decide ((ai r.Pats:Int)≤(i:Int))=decide (ai r.Pats≤i):=by rw [decide_eq_decide]; omega
    rw [hd]
    cases mY r.Pats[i] <;> cases r.Pats[i].Not <;> cases decide (ai r.Pats≤i) <;> rfl
   ·have c1:decide ((i:Int) < (r.Pats.length:Int))=false:=decide_eq_false (by omega)
    rw [List.drop_of_length_le (by omega)]
    simp only [dK,c1,Bool.false_eq_true,if_false]; rfl
 have l0:=lp N 0 (by omega) (by omega)
 have h1:decide ((1:Int)≤(r.Pats.length:Int))=decide (1≤r.Pats.length):=by rw [decide_eq_decide]; omega
 have h2:decide ((r.Pats.length:Int)≤6)=decide (r.Pats.length≤6):=by rw [decide_eq_decide]; omega
 have h3:decide ((1:Int)≤(ai r.Pats:Int))=decide (1≤ai r.Pats):=by rw [decide_eq_decide]; omega
 have h4:decide ((ai r.Pats:Int)≤3)=decide (ai r.Pats≤3):=by rw [decide_eq_decide]; omega
 unfold oa iH
 simp only [in1,Option.bind_some,hc,h1,h2,h3,h4]
 rw [show dK N r N 0=_ from l0,List.drop_zero]
 cases (decide (1≤r.Pats.length) && decide (r.Pats.length≤6)) <;> cases (decide (1≤ai r.Pats) && decide (ai r.Pats≤3)) <;> rfl
def tR:Nat→Bool→List aq→Bool
 | _,_,[]=>true
 | i,b,p :: t=>!(decide (2 < i) && !p.Not) && (mY p && (!(decide (i=0) && p.Not) && (!((decide (0 < i) && b) && !p.Not) && tR (i+1) p.Not t)))
theorem Gt:∀ (l:List aq) (i:Nat),0 < i→tR i true l=(l.all mY && l.all fun p=>p.Not)
 | [],i,h=>rfl
 | p :: t,i,h=>by
  have h1:decide (i=0)=false:=decide_eq_false (by omega)
  have h2:decide (0 < i)=true:=decide_eq_true h
  unfold tR
  simp only [h1,h2,Bool.false_and,Bool.not_false,Bool.true_and,List.all_cons]
  cases hp:p.Not with
  | false=>cases mY p <;> simp
  | true=>
   rw [Gt t (i+1) (by omega)]
   cases mY p <;> simp
theorem AI (c:Nat):∀ (l:List aq) (i:Nat),c≤i→go c i l=(l.all mY && l.all fun p=>p.Not)
 | [],i,h=>rfl
 | p :: t,i,h=>by
  have h1:decide (c≤i)=true:=decide_eq_true h
  unfold go
  rw [AI c t (i+1) (by omega),h1]
  simp only [List.all_cons]
  cases mY p <;> cases p.Not <;> simp
theorem mL:∀ (l:List aq),(l.all fun p=>p.Not)=true↔ai l=0
 | []=>by simp [ai]
 | p :: t=>by
  unfold ai
  have:=mL t
  cases hp:p.Not with
  | true=>simp [hp]; simpa using this
  | false=>simp [hp]
theorem zL:∀ (l:List aq) (i:Nat) (b:Bool),(0 < i→b=false)→i≤3→(tR i b l=true↔(i=0→l=[]∨0 < ai l)∧i+ai l≤3∧go (i+ai l) i l=true)
 | [],i,b,hb,hi=>by simp [tR,ai,go,hi]
 | p :: t,i,b,hb,hi=>by
  have hb':(decide (0 < i) && b)=false:=by
   by_cases h:0 < i
   ·simp [hb h]
   ·simp [h]
  unfold tR go ai
  rw [hb']
  cases hp:p.Not with
  | true=>
   simp only [Bool.not_true,Bool.and_false,Bool.not_false,Bool.true_and,if_true,Bool.and_true,Bool.false_and]
   by_cases h0:i=0
   ·subst h0
    simp only [decide_true,Bool.not_true,Bool.and_false,Bool.false_and,Bool.false_eq_true,false_iff]
    rintro ⟨h1,h2,h3⟩
    have h1:0 < ai t:=by simpa using h1
    simp only [Bool.and_eq_true,beq_iff_eq] at h3
    have:=h3.2.1
    simp at this
    omega
   ·rw [decide_eq_false h0,Gt t (i+1) (by omega)]
    simp only [Bool.not_false,Bool.true_and,Bool.and_eq_true,beq_iff_eq,h0,false_implies,true_and]
    constructor
    ·rintro ⟨h1,h2,h3⟩
     have h4:=(mL t).1 h3
     rw [h4]
     refine ⟨by omega,h1,by simp,?_⟩
     rw [AI _ t (i+1) (by omega),h2,h3]; rfl
    ·rintro ⟨h1,h2,h3,h4⟩
     have h5:i+ai t≤i:=by simpa using h3
     have h6:ai t=0:=by omega
     exact ⟨h2,by
      rw [AI _ t (i+1) (by omega)] at h4
      simp only [Bool.and_eq_true] at h4
      exact h4.1,(mL t).2 h6⟩
  | false=>
   simp only [Bool.not_false,Bool.and_true,Bool.and_false,Bool.true_and,Bool.false_eq_true,if_false,Bool.and_eq_true,beq_iff_eq]
   have e1:decide (i+(ai t+1)≤i)=false:=decide_eq_false (by omega)
   rw [e1]
   have ar:i+(ai t+1)=i+1+ai t:=by omega
   by_cases h2:2 < i
   ·simp only [h2,decide_true,Bool.not_true,Bool.false_eq_true,false_and,false_iff]
    rintro ⟨_,h3,_⟩; omega
   ·have:=zL t (i+1) false (fun _=>rfl) (by omega)
    simp only [h2,decide_false,Bool.not_false,true_and]
    rw [this,ar]
    constructor
    ·rintro ⟨h3,_,h4,h5⟩
     refine ⟨fun _=>.inr (by omega),h4,h3,?_⟩
     first | exact ⟨rfl,h5⟩ | exact h5
    ·rintro ⟨_,h4,h3,h5⟩
     refine ⟨h3,by omega,h4,?_⟩
     first | exact h5.2 | exact h5
theorem Et (l:List aq):(tR 0 false l && (decide (1≤l.length) && decide (l.length≤6)))=iH l:=by
 have:=zL l 0 false (by simp) (by omega)
 simp only [true_implies,Nat.zero_add] at this
 rw [Bool.eq_iff_iff]
 unfold iH
 simp only [Bool.and_eq_true,decide_eq_true_eq,this]
 constructor
 ·rintro ⟨⟨h1,h2,h3⟩,h4,h5⟩
  have h1:=h1.resolve_left (by rintro rfl; simp at h4)
  exact ⟨⟨h4,h5⟩,⟨by omega,h2⟩,h3⟩
 ·rintro ⟨⟨h4,h5⟩,⟨h1,h2⟩,h3⟩
  exact ⟨⟨.inr (by omega),h2,h3⟩,h4,h5⟩
theorem Im {N:Nat} (hN:1099000000000≤N) (l:List aq) (hl:l.length≤1048576) (hp:∀ p∈l,zH p):p8 N l=some (iH l):=by
 have lp:∀ (n i:Nat) (b:Bool),i≤l.length→l.length - i < n→(∀ (h:i - 1 < l.length),0 < i→l[i - 1].Not=b)→dY N l n i=some (tR i b (l.drop i) && (decide (1≤l.length) && decide (l.length≤6))):=by
  intro n
  induction n with
  | zero=>intro i b _ h; omega
  | succ n ih=>
   intro i b hi hn hb
   by_cases hlt:i < l.length
   ·have c1:decide ((i:Int) < (l.length:Int))=true:=decide_eq_true (by omega)
    have h2:decide ((2:Int) < (i:Int))=decide (2 < i):=by rw [decide_eq_decide]; omega
    have h3:decide ((i:Int)=0)=decide (i=0):=by rw [decide_eq_decide]; omega
    have h4:decide ((0:Int) < (i:Int))=decide (0 < i):=by rw [decide_eq_decide]; omega
    rw [List.drop_eq_getElem_cons hlt]
    simp only [dY,c1,if_true,ah hlt,Option.bind_some,Lb hN _ (hp _ (List.getElem_mem hlt)),h2,h3,h4,wr1 i (by omega),ih (i+1) l[i].Not (by omega) (by omega) (fun h _=>rfl),tR]
    by_cases h0:0 < i
    ·have e1:IntKind.i64.wrap ((i:Int) - 1)=((i - 1:Nat):Int):=by rw [wr (by omega) (by omega)]; omega
     have e2:=hb (by omega) h0
     have e3:decide (i=0)=false:=decide_eq_false (by omega)
     simp only [h0,decide_true,if_true,e1,ah (show i - 1 < l.length by omega),Option.bind_some,e2,e3]
     cases decide (2 < i) <;> cases l[i].Not <;> cases mY l[i] <;> cases b <;> simp
    ·have e3:decide (i=0)=true:=decide_eq_true (by omega)
     simp only [h0,decide_false,Bool.false_eq_true,if_false,Option.bind_some,e3]
     cases decide (2 < i) <;> cases l[i].Not <;> cases mY l[i] <;> simp
   ·have c1:decide ((i:Int) < (l.length:Int))=false:=decide_eq_false (by omega)
    have h1:decide ((1:Int)≤(l.length:Int))=decide (1≤l.length):=by rw [decide_eq_decide]; omega
    have h2:decide ((l.length:Int)≤6)=decide (l.length≤6):=by rw [decide_eq_decide]; omega
    rw [List.drop_of_length_le (by omega)]
    simp only [dY,c1,Bool.false_eq_true,if_false,in0,Option.bind_some,h1,h2]; rfl
 unfold p8
 rw [show dY N l N 0=_ from lp N 0 false (by omega) (by omega) (fun _ h=>by omega),List.drop_zero,Et]
def ra (vs:List ByteArray) (c:bA):Bool:=pL c && (m5 vs c.L && m5 vs c.R)
theorem GP {N:Nat} (hN:1099000000000≤N) (l:List bA) (vs:List ByteArray) (hl:l.length≤1048576) (h:∀ c∈l,xo c) (hv:vs.length≤4294967296):mt N l vs=some (l.all (ra vs) && decide (l.length≤6)):=by
 have h2:decide ((l.length:Int)≤6)=decide (l.length≤6):=by rw [decide_eq_decide]; omega
 unfold mt
 refine lp0 hN l (by omega) (ep N l vs) (fun t=>some (t.all (ra vs) && decide (l.length≤6))) (fun n i x t g1 g2 g3 g4 g5 g6 g7=>?_) (fun n i g1 g2=>?_)
 ·simp only [ep,g5,if_true,g4,Option.bind_some,IX hN x (h x g2),DQ hN _ vs hv,g6,g7,List.all_cons,ra]
  cases pL x <;> cases m5 vs x.L <;> cases m5 vs x.R <;> simp
 ·simp only [ep,g2,Bool.false_eq_true,if_false,h2]; rfl
def rb (vs:List ByteArray) (e:bv):Bool:=m5 vs e.L && m5 vs e.R
def rR (vs:List ByteArray) (pos:Nat) (a:bY):Bool:=rj a && (!(decide (a.Kind=2) && decide ((pos:Int)≤a.N)) && a.Args.all (rb vs))
theorem J5 {N:Nat} (hN:1099000000000≤N) (l:List bY) (vs:List ByteArray) (pos:Nat) (hl:l.length≤1048576) (h:∀ c∈l,Af c) (hv:vs.length≤4294967296):oN N l vs pos=some (l.all (rR vs pos) && (decide (1≤l.length) && decide (l.length≤6))):=by
 have h1:decide ((1:Int)≤(l.length:Int))=decide (1≤l.length):=by rw [decide_eq_decide]; omega
 have h2:decide ((l.length:Int)≤6)=decide (l.length≤6):=by rw [decide_eq_decide]; omega
 unfold oN
 refine lp0 hN l (by omega) (cM N l vs pos) (fun t=>some (t.all (rR vs pos) && (decide (1≤l.length) && decide (l.length≤6)))) (fun n i x t g1 g2 g3 g4 g5 g6 g7=>?_) (fun n i g1 g2=>?_)
 ·have hx:=h x g2
  have inner:=lp0 hN x.Args (by have:=hx.2.2.1; omega) (eR N l vs i (cM N l vs pos n)) (fun u=>some (u.all (rb vs) && (t.all (rR vs pos) && (decide (1≤l.length) && decide (l.length≤6))))) (fun n' i' y u k1 k2 k3 k4 k5 k6 k7=>by
   simp only [eR,g4,Option.bind_some,k5,if_true,k4,DQ hN _ vs hv,k6,k7,List.all_cons,rb]
   cases m5 vs y.L <;> cases m5 vs y.R <;> simp) (fun n' i' k1 k2=>by
   simp only [eR,g4,Option.bind_some,k2,Bool.false_eq_true,if_false,g6,g7,List.all_nil,Bool.true_and])
  simp only [cM,g5,if_true,g4,Option.bind_some,KL hN x hx,inner,List.all_cons,rR]
  cases rj x <;> cases decide (x.Kind=2) <;> cases decide ((pos:Int)≤x.N) <;> simp [Bool.and_assoc]
 ·simp only [cM,g2,Bool.false_eq_true,if_false,in0,Option.bind_some,h1,h2]; rfl
def Bv (r:ac):Prop:=r.Name.size≤1048576∧(r.Pats.length≤1048576∧∀ p∈r.Pats,zH p)∧(r.Conds.length≤1048576∧∀ c∈r.Conds,xo c)∧(r.Acts.length≤1048576∧∀ a∈r.Acts,Af a)∧j4 r.Pats≤1048576∧(r.Acts.map fun a=>a.Args.length).sum≤1048576
def lv (r:ac):Bool:=ft r.Name && ((decide (-100≤r.Sal) && decide (r.Sal≤100)) && (iH r.Pats && ((r.Conds.all (ra (gi r)) && decide (r.Conds.length≤6)) && (r.Acts.all (rR (gi r) (ai r.Pats)) && (decide (1≤r.Acts.length) && decide (r.Acts.length≤6))))))
theorem Jo {N:Nat} (hN:1099000000000≤N) (r:ac) (h:Bv r):oK N r=some (lv r):=by
 obtain ⟨h1,⟨h2,h2'⟩,⟨h3,h3'⟩,⟨h4,h4'⟩,h5,h6⟩:=h
 have hb:=zY h5
 unfold oK lv
 have e1:=GP hN _ (gi r) h3 h3' (by omega)
 have e2:=J5 hN _ (gi r) (ai r.Pats) h4 h4' (by omega)
 have e0:jM N r=some (gi r):=EE hN r h2 h5 (fun p hp=>(h2' p hp).2.1)
 simp only [e0,Option.bind_some,q9 hN _ h1,in0,Im hN _ h2 h2',e1,DW hN r h2,e2,ng,Bool.and_assoc]
def bU:List bA→List ByteArray
 | []=>[]
 | c :: t=>cj [c.L,c.R]++bU t
def fw:List bv→List ByteArray
 | []=>[]
 | e :: t=>cj [e.L,e.R]++fw t
def cm:List bY→List ByteArray
 | []=>[]
 | a :: t=>fw a.Args++cm t
theorem sD:∀ (l:List bA),(bU l).length≤2*l.length
 | []=>by simp [bU]
 | c :: t=>by have:=sD t; have:=gz [c.L,c.R]; simp [bU] at *; omega
theorem sE:∀ (l:List bv),(fw l).length≤2*l.length
 | []=>by simp [fw]
 | c :: t=>by have:=sE t; have:=gz [c.L,c.R]; simp [fw] at *; omega
def ke (l:List bY):Nat:=(l.map fun a=>a.Args.length).sum
theorem tw:∀ (l:List bY),(cm l).length≤2*ke l
 | []=>by simp [cm,ke]
 | a :: t=>by have:=tw t; have:=sE a.Args; simp [cm,ke] at *; omega
theorem Kz {N:Nat} (hN:1099000000000≤N) (x:bY) (s4:Nat) (K:List ByteArray→Int→Option (List ByteArray)) (l:List bY) (g:List ByteArray→Option (List ByteArray)) (s:List ByteArray) (hl:s.length+2*x.Args.length≤4294967280) (hx:x.Args.length≤1048576) (h4:s4≤1048576)
  (hK:∀ s',s'.length≤s.length+2*x.Args.length→K s' ((s4+1:Nat):Int)=g s'):dA N s4 K x N s 0=g ((fw x.Args).foldl cI s):=by
 refine lp' hN x.Args (by omega) (dA N s4 K x) (fun t s=>g ((fw t).foldl cI s)) (fun u t=>u.length+2*t.length≤s.length+2*x.Args.length) s (by omega) (fun n u i y t h1 h2 h3 h4' h5 h6 hI ih=>?_) (fun n u i h1 h2 hI=>?_)
 ·simp only [List.length_cons] at hI
  have hv:=lz (cj [y.L,y.R]) u
  have ha:=gz [y.L,y.R]
  simp only [List.length_cons,List.length_nil] at ha
  simp only [dA,h5,if_true,h4',Option.bind_some,uf hN [y.L,y.R] u (by simp; omega),h6,fw,List.foldl_append]
  exact ih _ (by omega)
 ·simp only [dA,h2,Bool.false_eq_true,if_false,wr1 s4 (by omega),fw]
  exact hK u (by simpa using hI)
theorem K8 {N:Nat} (hN:1099000000000≤N) (r:ac) (hc:r.Conds.length≤1048576) (ha:r.Acts.length≤1048576) (hx:∀ a∈r.Acts,a.Args.length≤1048576) (he:ke r.Acts≤1048576):kL N r=some ((bU r.Conds++cm r.Acts).foldl cI []):=by
 unfold kL
 have a2:∀ s:List ByteArray,s.length≤4194304→cz N r N s 0=some ((cm r.Acts).foldl cI s):=fun s hs=>
  lp' hN r.Acts (by omega) (cz N r) (fun t s=>some ((cm t).foldl cI s)) (fun s t=>s.length+2*ke t≤16777216) s (by omega) (fun n u i x t h1 h2 h3 h4 h5 h6 hI ih=>by
   have hI':u.length+2*(x.Args.length+ke t)≤16777216:=by simpa [ke] using hI
   simp only [cz,h5,if_true,h4,Option.bind_some,cm,List.foldl_append]
   exact Kz hN x i (cz N r n) r.Acts (fun s'=>some ((cm t).foldl cI s')) u (by omega) (hx x h2) (by omega) (fun s' hs'=>ih s' (by omega))) (fun n u i h1 h2 hI=>by simp only [cz,h2,Bool.false_eq_true,if_false]; rfl)
 refine lp' hN r.Conds (by omega) (ez N r) (fun t s=>some ((bU t++cm r.Acts).foldl cI s)) (fun s t=>s.length+2*t.length≤4194304) [] (by simp; omega) (fun n u i x t h1 h2 h3 h4 h5 h6 hI ih=>?_) (fun n u i h1 h2 hI=>?_)
 ·simp only [List.length_cons] at hI
  have hv:=lz (cj [x.L,x.R]) u
  have ha:=gz [x.L,x.R]
  simp only [List.length_cons,List.length_nil] at ha
  simp only [ez,h5,if_true,h4,Option.bind_some,uf hN [x.L,x.R] u (by simp; omega),h6,bU,List.append_assoc]
  rw [List.foldl_append]
  exact ih _ (by omega)
 ·simp only [ez,h2,Bool.false_eq_true,if_false,bU,List.nil_append]
  exact a2 u (by simpa using hI)
theorem zJ (vs:List ByteArray) (a b:bk):(m5 vs a && m5 vs b)=true↔∀ x∈cj [a,b],x∈vs:=by
 unfold m5
 simp only [rQ,List.mem_cons,List.not_mem_nil,or_false,Bool.and_eq_true,Bool.or_eq_true,Bool.not_eq_true',decide_eq_false_iff_not,decide_eq_true_eq]
 constructor
 ·rintro ⟨h1,h2⟩ x ⟨c,rfl | rfl,h3,rfl⟩
  ·exact h1.resolve_left (fun h=>h h3)
  ·exact h2.resolve_left (fun h=>h h3)
 ·intro h
  refine ⟨?_,?_⟩
  ·by_cases h1:a.K=1
   ·exact .inr (h _ ⟨a,.inl rfl,h1,rfl⟩)
   ·exact .inl h1
  ·by_cases h1:b.K=1
   ·exact .inr (h _ ⟨b,.inr rfl,h1,rfl⟩)
   ·exact .inl h1
theorem sU (vs:List ByteArray):∀ (l:List bA),(∀ x∈bU l,x∈vs)↔∀ c∈l,(m5 vs c.L && m5 vs c.R)=true
 | []=>by simp [bU]
 | c :: t=>by
  simp only [bU,List.mem_append,or_imp,forall_and,sU vs t,List.mem_cons,forall_eq,zJ]
theorem sI (vs:List ByteArray):∀ (l:List bv),(∀ x∈fw l,x∈vs)↔∀ c∈l,rb vs c=true
 | []=>by simp [fw]
 | c :: t=>by
  simp only [fw,List.mem_append,or_imp,forall_and,sI vs t,List.mem_cons,forall_eq,rb,zJ]
theorem tI (vs:List ByteArray):∀ (l:List bY),(∀ x∈cm l,x∈vs)↔∀ a∈l,a.Args.all (rb vs)=true
 | []=>by simp [cm]
 | c :: t=>by
  simp only [cm,List.mem_append,or_imp,forall_and,tI vs t,List.mem_cons,forall_eq,sI,List.all_eq_true]
theorem JX {N:Nat} (hN:1099000000000≤N) (r:ac) (h:Bv r):nL N r=some (lv r):=by
 obtain ⟨h1,⟨h2,h2'⟩,⟨h3,h3'⟩,⟨h4,h4'⟩,h5,h6⟩:=h
 have hb:=zY h5
 have e0:jJ N r=some (gi r):=ED hN r h2 h5
 have e1:=K8 hN r h3 h4 (fun a ha=>(h4' a ha).2.2.1) h6
 have ul:((bU r.Conds++cm r.Acts).foldl cI []).length≤4294967296:=by
  have a1:=lz (bU r.Conds++cm r.Acts) []
  have a2:=sD r.Conds
  have a3:=tw r.Acts
  have a4:ke r.Acts≤1048576:=h6
  simp only [List.length_append,List.length_nil] at a1; omega
 have l3:dU N (gi r) ((bU r.Conds++cm r.Acts).foldl cI []) N 0=some (((bU r.Conds++cm r.Acts).foldl cI []).all fun x=>decide (x∈gi r)):=
  lp0 hN _ ul (dU N (gi r) _) (fun t=>some (t.all fun x=>decide (x∈gi r))) (fun n i x t g1 g2 g3 g4 g5 g6 g7=>by
   simp only [dU,g5,if_true,g4,Option.bind_some,HN hN _ x (show (gi r).length≤4294967296 by omega),g6,g7,List.all_cons]
   cases decide (x∈gi r) <;> rfl) (fun n i g1 g2=>by simp only [dU,g2,Bool.false_eq_true,if_false]; rfl)
 have l2:dO N r N 0=some ((r.Acts.all fun a=>rj a && !(decide (a.Kind=2) && decide ((ai r.Pats:Int)≤a.N))) && ((bU r.Conds++cm r.Acts).foldl cI []).all fun x=>decide (x∈gi r)):=
  lp0 hN r.Acts (by omega) (dO N r) (fun t=>some ((t.all fun a=>rj a && !(decide (a.Kind=2) && decide ((ai r.Pats:Int)≤a.N))) && ((bU r.Conds++cm r.Acts).foldl cI []).all fun x=>decide (x∈gi r))) (fun n i x t g1 g2 g3 g4 g5 g6 g7=>by
   simp only [dO,g5,if_true,g4,Option.bind_some,KD hN x (h4' x g2),DS hN r h2,g6,g7,List.all_cons]
   cases rj x <;> cases decide (x.Kind=2) <;> cases decide ((ai r.Pats:Int)≤x.N) <;> simp) (fun n i g1 g2=>by
   simp only [dO,g2,Bool.false_eq_true,if_false,e0,e1,Option.bind_some,l3]; rfl)
 have l1:dS N r N 0=some (r.Conds.all pL && ((r.Acts.all fun a=>rj a && !(decide (a.Kind=2) && decide ((ai r.Pats:Int)≤a.N))) && ((bU r.Conds++cm r.Acts).foldl cI []).all fun x=>decide (x∈gi r))):=
  lp0 hN r.Conds (by omega) (dS N r) (fun t=>some (t.all pL && ((r.Acts.all fun a=>rj a && !(decide (a.Kind=2) && decide ((ai r.Pats:Int)≤a.N))) && ((bU r.Conds++cm r.Acts).foldl cI []).all fun x=>decide (x∈gi r)))) (fun n i x t g1 g2 g3 g4 g5 g6 g7=>by
   simp only [dS,g5,if_true,g4,Option.bind_some,J2 hN x (h3' x g2),g6,g7,List.all_cons]
   cases pL x <;> simp) (fun n i g1 g2=>by
   simp only [dS,g2,Bool.false_eq_true,if_false,l2]; rfl)
 have d1:decide ((6:Int) < (r.Conds.length:Int)) = !decide (r.Conds.length≤6):=by rw [← decide_not,decide_eq_decide]; omega
 have d2:decide ((1:Int)≤(r.Acts.length:Int))=decide (1≤r.Acts.length):=by rw [decide_eq_decide]; omega
 have d3:decide ((r.Acts.length:Int)≤6)=decide (r.Acts.length≤6):=by rw [decide_eq_decide]; omega
 have key:(r.Conds.all pL && ((r.Acts.all fun a=>rj a && !(decide (a.Kind=2) && decide ((ai r.Pats:Int)≤a.N))) && ((bU r.Conds++cm r.Acts).foldl cI []).all fun x=>decide (x∈gi r)))=(r.Conds.all (ra (gi r)) && r.Acts.all (rR (gi r) (ai r.Pats))):=by
  rw [Bool.eq_iff_iff]
  have k1:(((bU r.Conds++cm r.Acts).foldl cI []).all fun x=>decide (x∈gi r))=true↔(∀ c∈r.Conds,(m5 (gi r) c.L && m5 (gi r) c.R)=true)∧∀ a∈r.Acts,a.Args.all (rb (gi r))=true:=by
   rw [← sU,← tI]
   simp only [List.all_eq_true,decide_eq_true_eq,tZ,List.not_mem_nil,false_or,List.mem_append,or_imp,forall_and]
  rw [Bool.and_eq_true,Bool.and_eq_true,Bool.and_eq_true,k1]
  simp only [List.all_eq_true,ra,rR,Bool.and_eq_true,forall_and,and_imp]
  constructor
  ·rintro ⟨a1,⟨a2,a3⟩,⟨a4,a5⟩,a6⟩; exact ⟨⟨a1,a4,a5⟩,a2,a3,a6⟩
  ·rintro ⟨⟨a1,a4,a5⟩,a2,a3,a6⟩; exact ⟨a1,⟨a2,a3⟩,⟨a4,a5⟩,a6⟩
 unfold nL lv
 simp only [qk hN _ h1,Option.bind_some,in1,IZ hN r h2 h2',d1,d2,d3,l1,key]
 generalize ft r.Name=a; generalize iH r.Pats=b; generalize (decide (-100≤r.Sal) && decide (r.Sal≤100))=c; generalize decide (r.Conds.length≤6)=d; generalize (decide (1≤r.Acts.length) && decide (r.Acts.length≤6))=e
 generalize r.Conds.all (ra (gi r))=f; generalize r.Acts.all (rR (gi r) (ai r.Pats))=g
 cases a <;> cases b <;> cases c <;> cases d <;> cases e <;> cases f <;> cases g <;> rfl
def tb (l:List ac) (v:ByteArray):Int:=match l.findIdx? (fun r=>seq r.Name v) with | some j=>(j:Int) | none=>-1
theorem Ma {N:Nat} (hN:1099000000000≤N) (d:bi) (v:ByteArray) (hl:d.Rules.length≤1048576):oO N d v=some (tb d.Rules v):=by
 unfold oO tb
 have a:=vW (eK N d v) d.Rules (by omega) (fun x=>seq x.Name v) (fun n i x hx _ hc hw=>by simp only [eK,hc,if_true,hx,Option.bind_some,hw]) (fun n i hc=>by simp only [eK,hc,Bool.false_eq_true,if_false]) N 0 (by omega) (by omega)
 rw [show ((0:Nat):Int)=0 from rfl,List.drop_zero] at a
 rw [a]
 cases d.Rules.findIdx? (fun r=>seq r.Name v) <;> simp
theorem LR {N:Nat} (hN:1099000000000≤N) (d:bi) (v:ByteArray) (hl:d.Rules.length≤1048576):nZ N d v=some (tb d.Rules v):=by
 unfold nZ cG tb
 have b:=vW (aP N d.Rules (fun a0=>hP N a0 v)) d.Rules (by omega) (fun x=>seq x.Name v) (fun n i x hx _ hc hw=>by simp only [aP,hP,hc,if_true,hx,Option.bind_some,hw]) (fun n i hc=>by simp only [aP,hc,Bool.false_eq_true,if_false]) N 0 (by omega) (by omega)
 rw [show ((0:Nat):Int)=0 from rfl,List.drop_zero] at b
 rw [b]
 cases d.Rules.findIdx? (fun r=>seq r.Name v) <;> simp
def gX (all:List ac):Nat→List ac→Bool
 | _,[]=>true
 | i,r :: t=>lv r && (decide (tb all r.Name=(i:Int)) && gX all (i+1) t)
def qf (d:bi):Bool:=ft d.Name && ((decide (1≤d.Rules.length) && decide (d.Rules.length≤12)) && gX d.Rules 0 d.Rules)
def C3 (d:bi):Prop:=d.Name.size≤1048576∧d.Rules.length≤1048576∧∀ r∈d.Rules,Bv r
theorem Kj {N:Nat} (hN:1099000000000≤N) (d:bi) (h:C3 d):qv N d=some (qf d):=by
 obtain ⟨h1,h2,h3⟩:=h
 have lp:∀ (n i:Nat),i≤d.Rules.length→d.Rules.length - i < n→eE N d n i=some (gX d.Rules i (d.Rules.drop i)):=by
  intro n
  induction n with
  | zero=>intro i _ h; omega
  | succ n ih=>
   intro i hi hn
   by_cases hlt:i < d.Rules.length
   ·have c1:decide ((i:Int) < (d.Rules.length:Int))=true:=decide_eq_true (by omega)
    rw [List.drop_eq_getElem_cons hlt]
    simp only [eE,c1,if_true,ah hlt,Option.bind_some,JX hN _ (h3 _ (List.getElem_mem hlt)),LR hN d _ h2,wr1 i (by omega),ih (i+1) (by omega) (by omega),gX]
    cases lv d.Rules[i] <;> cases decide (tb d.Rules d.Rules[i].Name=(i:Int)) <;> simp
   ·have c1:decide ((i:Int) < (d.Rules.length:Int))=false:=decide_eq_false (by omega)
    rw [List.drop_of_length_le (by omega)]
    simp only [eE,c1,Bool.false_eq_true,if_false]; rfl
 have l0:=lp N 0 (by omega) (by omega)
 have d1:decide ((1:Int)≤(d.Rules.length:Int))=decide (1≤d.Rules.length):=by rw [decide_eq_decide]; omega
 have d2:decide ((d.Rules.length:Int)≤12)=decide (d.Rules.length≤12):=by rw [decide_eq_decide]; omega
 unfold qv qf
 simp only [qk hN _ h1,Option.bind_some,in1,d1,d2]
 rw [show eE N d N 0=_ from l0,List.drop_zero]
 cases ft d.Name <;> cases (decide (1≤d.Rules.length) && decide (d.Rules.length≤12)) <;> rfl
theorem Ka {N:Nat} (hN:1099000000000≤N) (d:bi) (h:C3 d):qx N d=some (qf d):=by
 obtain ⟨h1,h2,h3⟩:=h
 have d1:decide ((1:Int)≤(d.Rules.length:Int))=decide (1≤d.Rules.length):=by rw [decide_eq_decide]; omega
 have d2:decide ((d.Rules.length:Int)≤12)=decide (d.Rules.length≤12):=by rw [decide_eq_decide]; omega
 have lp:∀ (n i:Nat),i≤d.Rules.length→d.Rules.length - i < n→eF N d n i=some (gX d.Rules i (d.Rules.drop i) && (ft d.Name && (decide (1≤d.Rules.length) && decide (d.Rules.length≤12)))):=by
  intro n
  induction n with
  | zero=>intro i _ h; omega
  | succ n ih=>
   intro i hi hn
   by_cases hlt:i < d.Rules.length
   ·have c1:decide ((i:Int) < (d.Rules.length:Int))=true:=decide_eq_true (by omega)
    rw [List.drop_eq_getElem_cons hlt]
    simp only [eF,c1,if_true,ah hlt,Option.bind_some,Jo hN _ (h3 _ (List.getElem_mem hlt)),Ma hN d _ h2,wr1 i (by omega),ih (i+1) (by omega) (by omega),gX]
    cases lv d.Rules[i] <;> cases decide (tb d.Rules d.Rules[i].Name=(i:Int)) <;> simp
   ·have c1:decide ((i:Int) < (d.Rules.length:Int))=false:=decide_eq_false (by omega)
    rw [List.drop_of_length_le (by omega)]
    simp only [eF,c1,Bool.false_eq_true,if_false,q9 hN _ h1,in0,Option.bind_some,d1,d2,ng,gX,Bool.true_and]
 have l0:=lp N 0 (by omega) (by omega)
 unfold qx qf
 rw [show eF N d N 0=_ from l0,List.drop_zero]
 cases gX d.Rules 0 d.Rules <;> simp
theorem qN {d:bi} (h:qf d=true):∀ r∈d.Rules,lv r=true:=by
 unfold qf at h
 simp only [Bool.and_eq_true] at h
 have:∀ (l:List ac) (i:Nat),gX d.Rules i l=true→∀ r∈l,lv r=true:=by
  intro l
  induction l with
  | nil=>intro i _ r hr; cases hr
  | cons x t ih=>
   intro i hi r hr
   unfold gX at hi
   simp only [Bool.and_eq_true] at hi
   rcases List.mem_cons.1 hr with rfl | hr
   ·exact hi.1
   ·exact ih _ hi.2.2 r hr
 exact this _ _ h.2.2
def bd (as:List ak) (a:ak):Int × List ak:=match as.findIdx? (fun x=>decide (x=a)) with | some j=>((j:Int),as) | none=>((as.length:Int),as++[a])
def be:List ak→List Int→List Int→List aq→List ak × List Int × List Int
 | as,p,n,[]=>(as,p,n)
 | as,p,n,x :: t=>if x.Not then be (bd as (aJ x)).2 p (n++[(bd as (aJ x)).1]) t else be (bd as (aJ x)).2 (p++[(bd as (aJ x)).1]) n t
def d5:List ak→List aD→List ac→bB
 | as,cs,[]=>⟨as,cs⟩
 | as,cs,r :: t=>d5 (be as [] [] r.Pats).1 (cs++[⟨(be as [] [] r.Pats).2.1,(be as [] [] r.Pats).2.2⟩]) t
def ct (d:bi):bB:=d5 [] [] d.Rules
theorem sZ {p:aq} (h:p.Args.length≤1048576):jr (aJ p):=by
 have h1:=wJ p.Args
 have h2:=Eb p.Args 0
 exact ⟨by show (iJ p.Args).length≤_; omega,by show (ats 0 p.Args).length≤_; omega⟩
theorem pq (as:List ak) (a:ak):(bd as a).2.length≤as.length+1∧as.length≤(bd as a).2.length:=by
 unfold bd
 split <;> simp
theorem rN {P:ak→Prop} {as:List ak} {a:ak} (h:∀ x∈as,P x) (ha:P a):∀ x∈(bd as a).2,P x:=by
 unfold bd
 split
 ·exact h
 ·intro x hx
  rcases List.mem_append.1 hx with h1 | h1
  ·exact h x h1
  ·simp at h1; rw [h1]; exact ha
theorem rA {P:ak→Prop}:∀ (t:List aq) (as:List ak) (p n:List Int),(∀ x∈as,P x)→(∀ x∈t,P (aJ x))→∀ x∈(be as p n t).1,P x
 | [],as,p,n,h,_=>h
 | x :: t,as,p,n,h,ht=>by
  unfold be
  have:=rN h (ht x (by simp))
  split
  ·exact rA t _ _ _ this fun y hy=>ht y (by simp [hy])
  ·exact rA t _ _ _ this fun y hy=>ht y (by simp [hy])
theorem rz:∀ (t:List aq) (as:List ak) (p n:List Int),(be as p n t).1.length≤as.length+t.length∧(be as p n t).2.1.length+(be as p n t).2.2.length=p.length+n.length+t.length
 | [],as,p,n=>by simp [be]
 | x :: t,as,p,n=>by
  have h1:=(pq as (aJ x)).1
  unfold be
  split
  ·have:=rz t (bd as (aJ x)).2 p (n++[(bd as (aJ x)).1])
   simp only [List.length_append,List.length_cons,List.length_nil] at this ⊢
   omega
  ·have:=rz t (bd as (aJ x)).2 (p++[(bd as (aJ x)).1]) n
   simp only [List.length_append,List.length_cons,List.length_nil] at this ⊢
   omega
def lR (l:List ac):Nat:=(l.map fun r=>r.Pats.length).sum
theorem l9 (r:ac) (t:List ac):lR (r :: t)=r.Pats.length+lR t:=by simp [lR]
def wS (rs:List ac):Prop:=rs.length≤1048576∧lR rs≤1048576∧∀ r∈rs,∀ p∈r.Pats,p.Args.length≤1048576
theorem Cf {B:Nat}:∀ {l:List ac},(∀ r∈l,r.Pats.length≤B)→lR l≤l.length*B
 | [],_=>by simp [lR]
 | p :: t,h=>by
  have h1:=Cf (l:=t) fun q hq=>h q (by simp [hq])
  have h2:=h p (by simp)
  rw [l9,List.length_cons,Nat.succ_mul]; omega
theorem tq {c:Nat}:∀ (l:List aq) (i:Nat),go c i l=true→∀ p∈l,mY p=true
 | [],_,_,p,hp=>by cases hp
 | x :: t,i,h,p,hp=>by
  unfold go at h
  simp only [Bool.and_eq_true] at h
  rcases List.mem_cons.1 hp with rfl | hp
  ·exact h.1
  ·exact tq t _ h.2.2 p hp
theorem sA {d:bi} (hd:qf d=true):wS d.Rules:=by
 have h1:d.Rules.length≤12:=by
  unfold qf at hd
  simp only [Bool.and_eq_true,decide_eq_true_eq] at hd
  exact hd.2.1.2
 have h2:∀ r∈d.Rules,iH r.Pats=true:=fun r hr=>by
  have:=qN hd r hr
  unfold lv at this
  simp only [Bool.and_eq_true] at this
  exact this.2.2.1
 have h3:∀ r∈d.Rules,r.Pats.length≤6:=fun r hr=>by
  have:=h2 r hr
  unfold iH at this
  simp only [Bool.and_eq_true,decide_eq_true_eq] at this
  exact this.1.2
 have h4:=Cf h3
 refine ⟨by omega,by omega,fun r hr p hp=>?_⟩
 have:=h2 r hr
 unfold iH at this
 simp only [Bool.and_eq_true,decide_eq_true_eq] at this
 have h5:=tq _ _ this.2.2 p hp
 unfold mY at h5
 simp only [Bool.and_eq_true,decide_eq_true_eq] at h5
 omega
theorem xg:∀ (l:List aq),(l.filter fun x=>!x.Not).length+(l.filter fun x=>x.Not).length=l.length
 | []=>rfl
 | p :: t=>by
  have:=xg t
  simp only [List.filter_cons]
  cases p.Not <;> simp <;> omega
theorem oW:∀ (l:List aq),(l.filter fun x=>!x.Not).length=ai l
 | []=>rfl
 | p :: t=>by
  have:=oW t
  simp only [List.filter_cons,ai]
  cases p.Not <;> simp [this]
theorem sS {c:Nat}:∀ (l:List aq) (i:Nat),go c i l=true→l.filter (fun x=>!x.Not)=l.take (c - i)
 | [],i,_=>by simp
 | p :: t,i,h=>by
  unfold go at h
  simp only [Bool.and_eq_true,beq_iff_eq] at h
  have h1:=h.2.1
  have h2:=sS t (i+1) h.2.2
  by_cases hc:c≤i
  ·rw [decide_eq_true hc] at h1
   have e1:c - i=0:=by omega
   have e2:c - (i+1)=0:=by omega
   rw [e1,List.take_zero,List.filter_cons,h1]
   rw [e2,List.take_zero] at h2
   simpa using h2
  ·rw [decide_eq_false hc] at h1
   obtain ⟨k,hk⟩:∃ k,c - i=k+1:=⟨c - i - 1,by omega⟩
   have e2:c - (i+1)=k:=by omega
   rw [hk,List.take_succ_cons,List.filter_cons,h1,← e2,← h2]
   simp
theorem C8 {l:List aq} (h:iH l=true):l.filter (fun x=>!x.Not)=l.take (ai l):=by
 unfold iH at h
 simp only [Bool.and_eq_true] at h
 have:=sS l 0 h.2.2
 simpa using this
def KR (n:bB):Prop:=(n.Alphas.length≤1048576∧∀ a∈n.Alphas,jr a)∧n.Chains.length≤1048576∧∀ c∈n.Chains,c.Pos.length≤1048576∧c.Neg.length≤1048576
theorem CK {as:List ak} {a:ak} (hl:as.length≤4611686018427387900):idx (bd as a).2 (bd as a).1=some a:=by
 unfold bd
 split
 ·rename_i j h
  rw [List.findIdx?_eq_some_iff_getElem] at h
  obtain ⟨hj,h1,_⟩:=h
  simp only [ah hj]
  simpa using h1
 ·simp only
  rw [ah (by simp)]
  simp
theorem HC {α:Type} {xs ys:List α} {i:Int} {a:α} (h:idx xs i=some a):idx (xs++ys) i=some a:=by
 obtain ⟨h0,h1,e⟩:=a7 h
 unfold idx
 rw [if_pos h0,List.getElem?_append_left (by omega)]
 exact e
theorem CL (as:List ak) (a:ak):∃ u,(bd as a).2=as++u:=by
 unfold bd
 split
 ·exact ⟨[],by simp⟩
 ·exact ⟨[a],rfl⟩
theorem yB {as:List ak} {a:ak} (h:as.Nodup):(bd as a).2.Nodup:=by
 unfold bd
 split
 ·exact h
 ·rename_i hn
  rw [List.findIdx?_eq_none_iff] at hn
  refine List.nodup_append.2 ⟨h,by simp,?_⟩
  intro x hx y hy hxy
  simp at hy; subst hy; subst hxy
  have:=hn x hx
  simp at this
def At (A:List ak):List Int→List aq→Prop
 | [],[]=>True
 | i :: l,p :: t=>idx A i=some (aJ p)∧At A l t
 | _,_=>False
theorem At.ext {A u:List ak}:∀ {l:List Int} {t:List aq},At A l t→At (A++u) l t
 | [],[],_=>trivial
 | i :: l,p :: t,h=>⟨HC h.1,h.2.ext⟩
theorem At.snoc {A:List ak} {i:Int} {p:aq} (h2:idx A i=some (aJ p)):∀ {l:List Int} {t:List aq},At A l t→At A (l++[i]) (t++[p])
 | [],[],_=>⟨h2,trivial⟩
 | i :: l,p :: t,h=>⟨h.1,h.2.snoc h2⟩
theorem At.len {A:List ak}:∀ {l:List Int} {t:List aq},At A l t→l.length=t.length
 | [],[],_=>rfl
 | i :: l,p :: t,h=>by simp [h.2.len]
theorem At.get {A:List ak}:∀ {l:List Int} {t:List aq},At A l t→∀ (k:Nat) (h1:k < l.length) (h2:k < t.length),idx A l[k]=some (aJ t[k])
 | [],[],_,k,h1,_=>by simp at h1
 | i :: l,p :: t,h,0,_,_=>h.1
 | i :: l,p :: t,h,k+1,h1,h2=>h.2.get k (by simpa using h1) (by simpa using h2)
theorem sX:∀ (t:List aq) (as:List ak) (p n:List Int) (pp nn:List aq),as.length+t.length≤4194304→as.Nodup→At as p pp→At as n nn →
  (∃ u,(be as p n t).1=as++u)∧(be as p n t).1.Nodup∧At (be as p n t).1 (be as p n t).2.1 (pp++t.filter fun x=>!x.Not)∧At (be as p n t).1 (be as p n t).2.2 (nn++t.filter fun x=>x.Not)
 | [],as,p,n,pp,nn,_,hd,h1,h2=>⟨⟨[],by simp [be]⟩,hd,by simpa [be] using h1,by simpa [be] using h2⟩
 | x :: t,as,p,n,pp,nn,hl,hd,h1,h2=>by
  simp only [List.length_cons] at hl
  obtain ⟨u,hu⟩:=CL as (aJ x)
  have hpl:=(pq as (aJ x)).1
  have hid:=CK (as:=as) (a:=aJ x) (by omega)
  have hnd:=yB (a:=aJ x) hd
  have h1':At (bd as (aJ x)).2 p pp:=by rw [hu]; exact h1.ext
  have h2':At (bd as (aJ x)).2 n nn:=by rw [hu]; exact h2.ext
  unfold be
  cases hx:x.Not with
  | true=>
   simp only [if_true,List.filter_cons,hx,Bool.not_true,Bool.false_eq_true,if_false]
   obtain ⟨⟨w,e⟩,g1,g2,g3⟩:=sX t _ p (n++[(bd as (aJ x)).1]) pp (nn++[x]) (by omega) hnd h1' (h2'.snoc hid)
   exact ⟨⟨u++w,by rw [e,hu,List.append_assoc]⟩,g1,g2,by simpa using g3⟩
  | false=>
   simp only [Bool.false_eq_true,if_false,List.filter_cons,hx,Bool.not_false,if_true]
   obtain ⟨⟨w,e⟩,g1,g2,g3⟩:=sX t _ (p++[(bd as (aJ x)).1]) n (pp++[x]) nn (by omega) hnd (h1'.snoc hid) h2'
   exact ⟨⟨u++w,by rw [e,hu,List.append_assoc]⟩,g1,by simpa using g2,g3⟩
def Ats (A:List ak):List aD→List ac→Prop
 | [],[]=>True
 | c :: l,r :: t=>(At A c.Pos (r.Pats.filter fun x=>!x.Not)∧At A c.Neg (r.Pats.filter fun x=>x.Not))∧Ats A l t
 | _,_=>False
theorem Ats.ext {A u:List ak}:∀ {l:List aD} {t:List ac},Ats A l t→Ats (A++u) l t
 | [],[],_=>trivial
 | i :: l,p :: t,h=>⟨⟨h.1.1.ext,h.1.2.ext⟩,h.2.ext⟩
theorem Ats.snoc {A:List ak} {c:aD} {r:ac} (h2:At A c.Pos (r.Pats.filter fun x=>!x.Not)∧At A c.Neg (r.Pats.filter fun x=>x.Not)):∀ {l:List aD} {t:List ac},Ats A l t→Ats A (l++[c]) (t++[r])
 | [],[],_=>⟨h2,trivial⟩
 | i :: l,p :: t,h=>⟨h.1,h.2.snoc h2⟩
theorem Ats.len {A:List ak}:∀ {l:List aD} {t:List ac},Ats A l t→l.length=t.length
 | [],[],_=>rfl
 | i :: l,p :: t,h=>by simp [h.2.len]
theorem Ats.get {A:List ak}:∀ {l:List aD} {t:List ac},Ats A l t→∀ (k:Nat) (h1:k < l.length) (h2:k < t.length),At A l[k].Pos (t[k].Pats.filter fun x=>!x.Not)∧At A l[k].Neg (t[k].Pats.filter fun x=>x.Not)
 | [],[],_,k,h1,_=>by simp at h1
 | i :: l,p :: t,h,0,_,_=>h.1
 | i :: l,p :: t,h,k+1,h1,h2=>h.2.get k (by simpa using h1) (by simpa using h2)
theorem uI:∀ (t:List ac) (as:List ak) (cs:List aD) (rr:List ac),as.length+lR t≤4194304→as.Nodup→Ats as cs rr →
  (d5 as cs t).Alphas.Nodup∧Ats (d5 as cs t).Alphas (d5 as cs t).Chains (rr++t)∧(d5 as cs t).Alphas.length≤as.length+lR t
 | [],as,cs,rr,_,hd,h=>⟨hd,by simpa [d5] using h,by simp [d5,lR]⟩
 | r :: t,as,cs,rr,hl,hd,h=>by
  rw [l9] at hl
  obtain ⟨⟨u,e⟩,g1,g2,g3⟩:=sX r.Pats as [] [] [] [] (by omega) hd trivial trivial
  have h4:=(rz r.Pats as [] []).1
  have:=uI t (be as [] [] r.Pats).1 (cs++[⟨(be as [] [] r.Pats).2.1,(be as [] [] r.Pats).2.2⟩]) (rr++[r]) (by omega) g1 (Ats.snoc ⟨by simpa using g2,by simpa using g3⟩ (by rw [e]; exact h.ext))
  unfold d5
  rw [l9]
  refine ⟨this.1,by simpa using this.2.1,by have:=this.2.2; omega⟩
theorem tn {d:bi} (h:wS d.Rules):(ct d).Alphas.Nodup∧Ats (ct d).Alphas (ct d).Chains d.Rules∧(ct d).Alphas.length≤lR d.Rules:=by
 have h2:=h.2.1
 have:=uI d.Rules [] [] [] (by simp; omega) (by simp) trivial
 unfold ct
 refine ⟨this.1,by simpa using this.2.1,by simpa using this.2.2⟩
theorem Hu {A:List ak} {l:List aD} {t:List ac} (h:Ats A l t):∀ c∈l,∃ r∈t,c.Pos.length+c.Neg.length=r.Pats.length:=by
 intro c hc
 obtain ⟨k,hk,rfl⟩:=List.getElem_of_mem hc
 have hk':k < t.length:=by rw [← h.len]; exact hk
 have:=h.get k hk hk'
 exact ⟨_,List.getElem_mem hk',by rw [this.1.len,this.2.len,xg]⟩
theorem tC {P:ak→Prop}:∀ (t:List ac) (as:List ak) (cs:List aD),(∀ x∈as,P x)→(∀ r∈t,∀ p∈r.Pats,P (aJ p))→∀ x∈(d5 as cs t).Alphas,P x
 | [],as,cs,h,_=>h
 | r :: t,as,cs,h,ht=>by
  unfold d5
  exact tC t _ _ (rA r.Pats as [] [] h (ht r (by simp))) fun q hq=>ht q (by simp [hq])
theorem Ae:∀ {l:List ac} {r:ac},r∈l→r.Pats.length≤lR l
 | x :: t,r,h=>by
  rw [l9]
  rcases List.mem_cons.1 h with rfl | h
  ·omega
  ·have:=Ae h; omega
theorem xn {d:bi} (h:wS d.Rules):KR (ct d):=by
 obtain ⟨h1,h2,h3⟩:=tn h
 obtain ⟨k1,k2,k3⟩:=h
 refine ⟨⟨by omega,tC d.Rules [] [] (by simp) fun r hr p hp=>sZ (k3 r hr p hp)⟩,by rw [h2.len]; exact k1,fun c hc=>?_⟩
 obtain ⟨r,hr,e⟩:=Hu h2 c hc
 have:=Ae hr
 omega
def neg (l:List aq):List aq:=l.filter fun p=>p.Not
def okB (xs:List ao) (ps:List aq) (r:List Int):List aC × Bool:=cE xs (ps.take r.length) r []
def fb (xs:List ao) (ns:List aq) (l:List aC):List Int:=ns.map fun p=>(xm p l xs:Int)
def mA (xs:List ao) (ps ns:List aq) (row:List Int) (id:Int):List aa:=
 if (okB xs ps (row++[id])).2=true then [⟨row++[id],if row.length+1=ps.length then fb xs ns (okB xs ps (row++[id])).1 else []⟩] else []
def eB (xs:List ao) (ps ns:List aq) (row ids:List Int):List aa:=ids.flatMap (mA xs ps ns row)
def gf (xs:List ao) (ps ns:List aq) (id:Int) (k:Nat) (B F:List aa) (A:List Int):List aa:=
 if k=0 then eB xs ps ns [] [id] else B.flatMap (fun t=>eB xs ps ns t.Ids [id])++F.flatMap (fun t=>eB xs ps ns t.Ids A)
def jR (xs:List ao) (ps ns:List aq) (id:Int) (A:Nat→List Int):Nat→List ab→List aa→List aa→List ab
 | _,[],_,_=>[]
 | k,L :: Ls,B,F=>⟨L.Toks++gf xs ps ns id k B F (A k)⟩ :: jR xs ps ns id A (k+1) Ls L.Toks (gf xs ps ns id k B F (A k))
def jK (f:aw) (l:List aC) (by_:Int):List aq→List Int→List Int
 | p :: ns,x :: h=>(if (bL p f l).2=true then IntKind.i64.wrap (x+by_) else x) :: jK f l by_ ns h
 | _,h=>h
def iN (xs:List ao) (ps ns:List aq) (f:aw) (by_:Int) (toks:List aa):List aa:=
 toks.map fun t=>if (okB xs ps t.Ids).2=true then ⟨t.Ids,jK f (okB xs ps t.Ids).1 by_ ns t.Hits⟩ else t
def ta (as:List aR) (c:aD) (k:Nat):List Int:=match c.Pos[k]? with
 | some a=>(match idx as a with
  | some i=>i.L
  | none=>[])
 | none=>[]
def fG (xs:List ao) (ps ns:List aq) (f:aw) (by_:Int) (row:aG):aG:=match row.Levels[row.Levels.length - 1]? with
 | some L=>⟨row.Levels.set (row.Levels.length - 1) ⟨iN xs ps ns f by_ L.Toks⟩⟩
 | none=>row
def oZ (xs:List ao) (as:List aR) (f:aw) (id:Int) (r:ac) (c:aD) (row:aG):aG:=
 ⟨jR xs (pos r.Pats) (neg r.Pats) id (ta as c) 0 (fG xs (pos r.Pats) (neg r.Pats) f 1 row).Levels [] []⟩
def mJ (g:ac→aD→aG→aG):List ac→List aD→List aG→List aG
 | r :: rs,c :: cs,w :: ws=>g r c w :: mJ g rs cs ws
 | _,_,ws=>ws
def bT (f:aw) (id:Int):List ak→List aR→List aR
 | a :: as,i :: is=>(if eu a f=true then ⟨i.L++[id]⟩ else i) :: bT f id as is
 | _,is=>is
def BF (d:bi) (n:bB) (m:aK) (s:ae) (id:Int):aK:=
 ⟨bT (aI s.Items id).1 id n.Alphas m.Alphas,mJ (oZ s.Items (bT (aI s.Items id).1 id n.Alphas m.Alphas) (aI s.Items id).1 id) d.Rules n.Chains m.Rules⟩
theorem qt (xs:List ao) (ps ns:List aq) (row:List Int):∀ (ids:List Int),(eB xs ps ns row ids).length≤ids.length
 | []=>by simp [eB]
 | v :: ids=>by
  have h1:=qt xs ps ns row ids
  unfold eB at h1 ⊢
  rw [List.flatMap_cons,List.length_append,List.length_cons]
  have h2:(mA xs ps ns row v).length≤1:=by unfold mA; split <;> simp
  omega
theorem qR (xs:List ao) (ps ns:List aq) (ids:List Int):∀ (B:List aa),(B.flatMap fun t=>eB xs ps ns t.Ids ids).length≤B.length*ids.length
 | []=>by simp
 | t :: B=>by
  have h1:=qR xs ps ns ids B
  have h2:=qt xs ps ns t.Ids ids
  rw [List.flatMap_cons,List.length_append,List.length_cons,Nat.succ_mul]; omega
theorem uu {xs:List ao} {ps ns:List aq} {row ids:List Int}:∀ t∈eB xs ps ns row ids,t.Ids.length=row.length+1∧t.Hits.length≤ns.length:=by
 intro t ht
 unfold eB at ht
 obtain ⟨v,_,h⟩:=List.mem_flatMap.1 ht
 unfold mA at h
 split at h
 ·simp only [List.mem_singleton] at h
  subst h
  refine ⟨by simp,?_⟩
  simp only
  split
  ·simp [fb]
  ·simp
 ·cases h
theorem uw (f:aw) (l:List aC) (b:Int):∀ (ns:List aq) (h:List Int),(jK f l b ns h).length=h.length
 | p :: ns,x :: h=>by simp [jK,uw f l b ns h]
 | [],h=>by simp [jK]
 | p :: ns,[]=>by simp [jK]
theorem u6 {xs:List ao} {ps ns:List aq} {f:aw} {b:Int} (toks:List aa):(iN xs ps ns f b toks).map (·.Ids)=toks.map (·.Ids):=by
 unfold iN
 rw [List.map_map]
 apply List.map_congr_left
 intro t _
 simp only [Function.comp]
 split <;> rfl
theorem uy {xs:List ao} {ps ns:List aq} {f:aw} {b:Int} (toks:List aa):(iN xs ps ns f b toks).length=toks.length:=by simp [iN]
theorem ro (xs:List ao) (ps:List aq) (ids:List Int):(okB xs ps ids).1.length≤eD ps:=by
 have h1:=ww (xs:=xs) (ps.take ids.length) ids []
 have h2:eD (ps.take ids.length)≤eD ps:=BO _ _
 unfold okB
 simp at h1
 omega
theorem C6 {N:Nat} (hN:1099000000000≤N) (s:ae) (v:Int) (hl:s.Items.length≤1048576) (hx:∀ x∈s.Items,x.F.Fields.length≤1048576):kZ N s v=some (aI s.Items v):=by
 unfold kZ
 refine lp0 hN s.Items (by omega) (eP N s v) (fun t=>some (aI t v)) (fun n i x t h1 h2 h3 h4 h5 h6 h7=>?_) (fun n i h1 h2=>?_)
 ·have e:oS N x.F=some x.F:=by
   unfold oS
   rw [kf (show x.F.Fields.length≤4294967296 by have:=hx x h2; omega)]; rfl
  simp only [eP,h5,if_true,h4,Option.bind_some,h6,h7,e,uA]
  by_cases h:x.Id=v <;> simp [h]
 ·simp only [eP,h2,Bool.false_eq_true,if_false]; rfl
structure SzS (r:ac) (s:ae):Prop where
 pl:r.Pats.length≤1048576
 sa:eD r.Pats≤1048576
 pa:∀ p∈r.Pats,p.Args.length≤1048576
 sl:s.Items.length≤1048576
 fl:∀ x∈s.Items,x.F.Fields.length≤1048576
 fp:pos r.Pats=r.Pats.take (ai r.Pats)
theorem Bx {N:Nat} (hN:1099000000000≤N) (r:ac) (s:ae) (hz:SzS r s) (ids:List Int) (hi:ids.length≤ai r.Pats) :
  ∃ l,gH N r s ids=some (l,(okB s.Items (pos r.Pats) ids).2)∧((okB s.Items (pos r.Pats) ids).2=true→l=(okB s.Items (pos r.Pats) ids).1)∧l.length≤1048576:=by
 have hpc:=fJ r.Pats
 have hpl:=hz.pl
 unfold gH
 have lp:∀ (n i:Nat) (l:List aC),i≤ids.length→ids.length - i < n→l.length+eD (r.Pats.drop i)≤1048576 →
   ∃ q,dB N r s ids n l i=some (q,(cE s.Items ((r.Pats.take ids.length).drop i) (ids.drop i) l).2)∧((cE s.Items ((r.Pats.take ids.length).drop i) (ids.drop i) l).2=true→q=(cE s.Items ((r.Pats.take ids.length).drop i) (ids.drop i) l).1)∧q.length≤1048576:=by
  intro n
  induction n with
  | zero=>intro i _ _ h; omega
  | succ n ih=>
   intro i l h1 hn hl
   by_cases hlt:i < ids.length
   ·have c1:decide ((i:Int) < (ids.length:Int))=true:=decide_eq_true (by omega)
    have hlt':i < r.Pats.length:=by omega
    have hlt2:i < (r.Pats.take ids.length).length:=by rw [List.length_take]; omega
    rw [List.drop_eq_getElem_cons hlt'] at hl
    rw [gK] at hl
    have hml:=qT r.Pats[i] (aI s.Items ids[i]).1 l
    rw [List.drop_eq_getElem_cons hlt,List.drop_eq_getElem_cons hlt2,cE,List.getElem_take]
    simp only [dB,c1,if_true,ah hlt,Option.bind_some,C6 hN s _ hz.sl hz.fl,jt,ah hlt']
    rw [show (⟨(aI s.Items ids[i]).1.Kind,(aI s.Items ids[i]).1.Fields⟩:aw)=(aI s.Items ids[i]).1 from rfl,Ek hN r.Pats[i] _ l (hz.pa _ (List.getElem_mem hlt')) (show l.length≤2147483648 by omega)]
    simp only [Option.bind_some,wr1 i (by omega)]
    cases (aI s.Items ids[i]).2 with
    | false=>exact ⟨l,by simp,by simp,by omega⟩
    | true=>
     cases hm:(bL r.Pats[i] (aI s.Items ids[i]).1 l).2 with
     | false=>exact ⟨l,by simp,by simp,by omega⟩
     | true=>
      simp only [Bool.not_true,Bool.false_eq_true,if_false,and_self,if_true,Option.bind_some]
      exact ih (i+1) _ (by omega) (by omega) (by omega)
   ·have c1:decide ((i:Int) < (ids.length:Int))=false:=decide_eq_false (by omega)
    simp only [dB,c1,Bool.false_eq_true,if_false]
    rw [List.drop_of_length_le (show (r.Pats.take ids.length).length≤i by rw [List.length_take]; omega),List.drop_of_length_le (show ids.length≤i by omega)]
    exact ⟨l,by simp [cE],by simp [cE],by omega⟩
 obtain ⟨q,h1,h2,h3⟩:=lp N 0 [] (by omega) (by omega) (by simpa using hz.sa)
 have e:(pos r.Pats).take ids.length=r.Pats.take ids.length:=by rw [hz.fp,List.take_take]; congr 1; omega
 unfold okB
 rw [e]
 simp only [List.drop_zero] at h1 h2
 exact ⟨q,h1,h2,h3⟩
def o9 (ns:List aq) (f:aw) (l:List aC):List Int:=ns.map fun p=>if (bL p f l).2=true then 1 else 0
theorem I2 {N:Nat} (hN:1099000000000≤N) (r:ac) (f:aw) (l:List aC) (hp:r.Pats.length≤1048576) (pa:∀ p∈r.Pats,p.Args.length≤1048576) (hl:l.length≤1048576):lj N r f l=some (o9 (neg r.Pats) f l):=by
 unfold lj
 refine (lp' hN r.Pats (by omega) (fun n (u:List Int) i=>cH N r f l n u i) (fun t u=>some (u++o9 (neg t) f l)) (fun u t=>u.length+t.length≤1048576) [] (by simpa using hp) (fun n u i p t g1 g2 g3 g4 g5 g6 gI gh=>?_) (fun n u i g1 g2 gI=>?_)).trans (by simp)
 ·simp only [List.length_cons] at gI
  have hneg:neg (p :: t)=if p.Not then p :: neg t else neg t:=by unfold neg; rw [List.filter_cons]
  simp only [cH,g5,if_true,g4,Option.bind_some,Ek hN p f l (pa p g2) (show l.length≤2147483648 by omega)]
  rw [hneg]
  cases hn:p.Not with
  | false=>simp only [Bool.false_eq_true,if_false,g6]; exact gh u (by omega)
  | true=>
   simp only [if_true]
   cases hm:(bL p f l).2 with
   | true=>
    simp only [if_true,fL,bR (show u.length+[(1:Int)].length≤4294967296 by simp; omega),Option.bind_some,g6]
    rw [gh _ (by simp; omega)]; simp [o9,hm]
   | false=>
    simp only [Bool.false_eq_true,if_false,fL,bR (show u.length+[(0:Int)].length≤4294967296 by simp; omega),Option.bind_some,g6]
    rw [gh _ (by simp; omega)]; simp [o9,hm]
 ·simp only [cH,g2,Bool.false_eq_true,if_false]; simp [neg,o9]
def j0 (xs:List ao) (ps:List aq) (row:List Int) (id:Int):List aa:=if (okB xs ps (row++[id])).2=true then [⟨row++[id],[]⟩] else []
theorem Df {N:Nat} (hN:1099000000000≤N) (r:ac) (s:ae) (hz:SzS r s) (out:List aa) (row:List Int) (id:Int) (hr:row.length+1≤ai r.Pats) (ho:out.length+1≤4294967296) :
  iQ N out r s row id=some (out++j0 s.Items (pos r.Pats) row id):=by
 have hpc:=fJ r.Pats
 have hpl:=hz.pl
 obtain ⟨l,h1,h2,h3⟩:=Bx hN r s hz (row++[id]) (by simp; omega)
 unfold iQ j0
 simp only [kf (show row.length≤4294967296 by omega),Option.bind_some,bR (show row.length+[id].length≤4294967296 by simp; omega),h1]
 cases (okB s.Items (pos r.Pats) (row++[id])).2 with
 | false=>simp
 | true=>simp [bR (show out.length+[(⟨row++[id],[]⟩:aa)].length≤4294967296 by simpa using ho)]
def EB:List Int→List Int→List Int
 | x :: a,y :: b=>(x+y) :: EB a b
 | a,_=>a
theorem EU (ns:List aq) (l:List aC) (xs:List ao) (x:ao):EB (fb xs ns l) (o9 ns x.F l)=fb (xs++[x]) ns l:=by
 induction ns with
 | nil=>rfl
 | cons p ns ih=>
  unfold fb o9 at ih ⊢
  simp only [List.map_cons,EB,ih]
  congr 1
  unfold xm
  rw [List.countP_append]
  cases hm:(bL p x.F l).2 with
  | true=>simp [hm]
  | false=>simp [hm]
theorem Ac {N:Nat} (s2:Int) (K:List Int→Int→Option aa) (x5:List Int) (hx:x5.length≤1048576) (h01:∀ y∈x5,0≤y∧y≤1):∀ (b:List Int) (n:Nat) (db da a:List Int),b.length < n→x5=db++b→da.length=db.length→a.length=b.length→(∀ x∈a,0≤x∧x≤1048576) →
  du N s2 K x5 n (da++a) (db.length:Int)=K (da++EB a b) (IntKind.i64.wrap (s2+1))
 | [],n,db,da,a,hn,h1,h2,h3,h4=>by
  obtain ⟨n,rfl⟩:∃ m,n=m+1:=⟨n - 1,by simp at hn; omega⟩
  have c1:decide ((db.length:Int) < (x5.length:Int))=false:=decide_eq_false (by rw [h1]; simp)
  have:a=[]:=List.length_eq_zero_iff.1 (by simpa using h3)
  subst this
  simp only [du,c1,Bool.false_eq_true,if_false,EB]
 | y :: b,n,db,da,[],hn,h1,h2,h3,h4=>by simp at h3
 | y :: b,n,db,da,x :: a,hn,h1,h2,h3,h4=>by
  obtain ⟨n,rfl⟩:∃ m,n=m+1:=⟨n - 1,by omega⟩
  simp only [List.length_cons] at hn h3
  have hl:x5.length=db.length+(b.length+1):=by rw [h1]; simp
  have c1:decide ((db.length:Int) < (x5.length:Int))=true:=decide_eq_true (by omega)
  have e1:idx x5 (db.length:Int)=some y:=by rw [h1,jZ]; simp
  have e2:idx (da++x :: a) (db.length:Int)=some x:=by rw [← h2,jZ]; simp
  have hx1:=h4 x (by simp)
  have hy1:=h01 y (by rw [h1]; simp)
  have e3:IntKind.i64.wrap (x+y)=x+y:=wr (by omega) (by omega)
  have e4:(da++x :: a).set ((db.length:Int)).toNat (x+y)=(da++[x+y])++a:=by
   rw [Int.toNat_natCast,← h2,List.set_append_right _ _ (Nat.le_refl _),Nat.sub_self,List.set_cons_zero,List.append_assoc]; rfl
  simp only [du,c1,if_true,e1,e2,Option.bind_some,e3,e4,wr1 db.length (by omega)]
  have:=Ac (N:=N) s2 K x5 hx h01 b n (db++[y]) (da++[x+y]) a (by omega) (by rw [h1]; simp) (by simp [h2]) (by omega) (fun z hz=>h4 z (by simp [hz]))
  simp only [List.length_append,List.length_cons,List.length_nil,Nat.zero_add] at this
  rw [this,EB]
  simp
theorem Gz {N:Nat} (hN:1099000000000≤N) (r:ac) (s:ae) (hz:SzS r s) (t:aa) (ht:t.Ids.length≤ai r.Pats) (hok:(okB s.Items (pos r.Pats) t.Ids).2=true) :
  kj N r s t=some ⟨t.Ids,fb s.Items (neg r.Pats) (okB s.Items (pos r.Pats) t.Ids).1⟩:=by
 have hpc:=fJ r.Pats
 have hpl:=hz.pl
 have hsl:=hz.sl
 obtain ⟨l,h1,h2,h3⟩:=Bx hN r s hz t.Ids ht
 obtain rfl:=h2 hok
 have hn1:=xg r.Pats
 have hn2:=oW r.Pats
 have hnl:(neg r.Pats).length=r.Pats.length - ai r.Pats:=by unfold neg; omega
 have ew:IntKind.i64.wrap ((r.Pats.length:Int) - (ai r.Pats:Int))=((r.Pats.length - ai r.Pats:Nat):Int):=by
  rw [show ((r.Pats.length:Int) - (ai r.Pats:Int))=((r.Pats.length - ai r.Pats:Nat):Int) by omega]
  exact wr (by omega) (by omega)
 unfold kj
 rw [h1,Option.bind_some,DW hN r hz.pl,Option.bind_some,ew,j8 _ (by omega),Option.bind_some]
 have e0:List.replicate (r.Pats.length - ai r.Pats) (0:Int)=fb [] (neg r.Pats) (okB s.Items (pos r.Pats) t.Ids).1:=by
  rw [← hnl]
  unfold fb xm
  apply List.ext_getElem
  ·simp
  ·intro i h1 h2; simp
 rw [e0]
 have lp:∀ (zs:List ao) (n:Nat) (dz:List ao),zs.length < n→s.Items=dz++zs →
   cA N r s t ((okB s.Items (pos r.Pats) t.Ids).1,(okB s.Items (pos r.Pats) t.Ids).2) n (fb dz (neg r.Pats) (okB s.Items (pos r.Pats) t.Ids).1) (dz.length:Int)=some ⟨t.Ids,fb s.Items (neg r.Pats) (okB s.Items (pos r.Pats) t.Ids).1⟩:=by
  intro zs
  induction zs with
  | nil=>
   intro n dz hn he
   obtain ⟨n,rfl⟩:∃ m,n=m+1:=⟨n - 1,by simp at hn; omega⟩
   have he':s.Items=dz:=by simpa using he
   have c1:decide ((dz.length:Int) < (s.Items.length:Int))=false:=decide_eq_false (by rw [he']; simp)
   simp only [cA,c1,Bool.false_eq_true,if_false]
   rw [← he']
  | cons z zs ih=>
   intro n dz hn he
   obtain ⟨n,rfl⟩:∃ m,n=m+1:=⟨n - 1,by omega⟩
   simp only [List.length_cons] at hn
   have hl:s.Items.length=dz.length+(zs.length+1):=by rw [he]; simp
   have c1:decide ((dz.length:Int) < (s.Items.length:Int))=true:=decide_eq_true (by omega)
   have e1:idx s.Items (dz.length:Int)=some z:=by rw [he,jZ]; simp
   simp only [cA,c1,if_true,e1,Option.bind_some,I2 hN r z.F _ hz.pl hz.pa h3]
   have h4:=Ac (N:=N) (dz.length:Int) (cA N r s t ((okB s.Items (pos r.Pats) t.Ids).1,(okB s.Items (pos r.Pats) t.Ids).2) n) (o9 (neg r.Pats) z.F (okB s.Items (pos r.Pats) t.Ids).1) (by simp [o9]; omega)
    (fun y hy=>by unfold o9 at hy; obtain ⟨p,_,rfl⟩:=List.mem_map.1 hy; split <;> omega) (o9 (neg r.Pats) z.F (okB s.Items (pos r.Pats) t.Ids).1) N [] [] (fb dz (neg r.Pats) (okB s.Items (pos r.Pats) t.Ids).1) (by simp [o9]; omega) rfl rfl (by simp [o9,fb])
    (fun y hy=>by unfold fb at hy; obtain ⟨p,_,rfl⟩:=List.mem_map.1 hy; have:=Ar p (okB s.Items (pos r.Pats) t.Ids).1 dz; omega)
   simp only [List.nil_append,List.length_nil,Int.natCast_zero] at h4
   have h4':du N (dz.length:Int) (cA N r s t ((okB s.Items (pos r.Pats) t.Ids).1,(okB s.Items (pos r.Pats) t.Ids).2) n) (o9 (neg r.Pats) z.F (okB s.Items (pos r.Pats) t.Ids).1) N (fb dz (neg r.Pats) (okB s.Items (pos r.Pats) t.Ids).1) 0=_:=h4
   rw [h4',EU,wr1 dz.length (by omega)]
   have:=ih n (dz++[z]) (by omega) (by rw [he]; simp)
   simp only [List.length_append,List.length_cons,List.length_nil,Nat.zero_add] at this
   exact this
 have:=lp s.Items N [] (by omega) rfl
 simpa using this
theorem IS {N:Nat} (hN:1099000000000≤N) (p:List aC) (n:ByteArray) (hl:p.length≤4294967296):oe N p n=some (ua p n):=by
 unfold oe
 have:∀ (k i:Nat),i≤p.length→p.length - i < k→fR N p n k i=some (ua (p.drop i) n):=by
  intro k
  induction k with
  | zero=>intro i _ h; omega
  | succ k ih=>
   intro i hi hk
   simp only [fR]
   by_cases hlt:i < p.length
   ·have c1:decide ((i:Int) < (p.length:Int))=true:=decide_eq_true (by omega)
    rw [List.drop_eq_getElem_cons hlt,Ab]
    simp only [c1,if_true,ah hlt,Option.bind_some,wr1 i (by omega),ih (i+1) (by omega) (by omega)]
    cases seq p[i].Name n <;> rfl
   ·have c1:decide ((i:Int) < (p.length:Int))=false:=decide_eq_false (by omega)
    simp only [c1,Bool.false_eq_true,if_false]
    rw [List.drop_of_length_le (by omega)]; rfl
 exact this N 0 (by omega) (by omega)
theorem CJ {N:Nat} (hN:1099000000000≤N) (p:aq) (f:aw) (b:List aC) (he:p.Args.length=f.Fields.length) (hl:p.Args.length≤1048576) (hb:b.length≤2147483648):∀ (n i:Nat) (s:List aC),i≤p.Args.length→p.Args.length - i < n→s.length≤2147483648+i →
  cR N p f b n s i=some (cV b (p.Args.drop i) (f.Fields.drop i) s):=by
 intro n
 induction n with
 | zero=>intro i s _ h; omega
 | succ n ih=>
  intro i s hi hn hs
  simp only [cR]
  by_cases hlt:i < p.Args.length
  ·have c1:decide ((i:Int) < (p.Args.length:Int))=true:=decide_eq_true (by omega)
   have hlt':i < f.Fields.length:=by omega
   rw [List.drop_eq_getElem_cons hlt,List.drop_eq_getElem_cons hlt',cV]
   simp only [c1,if_true,ah hlt,ah hlt',Option.bind_some,IS hN s _ (show s.length≤4294967296 by omega),bh,kf (show b.length≤4294967296 by omega),bR (show s.length+[(⟨p.Args[i].S,f.Fields[i]⟩:aC)].length≤4294967296 by simp; omega),wr1 i (by omega),ng,orS]
   have ih1:=ih (i+1) s (by omega) (by omega) (by omega)
   have ih2:=ih (i+1) (s++[⟨p.Args[i].S,f.Fields[i]⟩]) (by omega) (by omega) (by simp; omega)
   by_cases k2:p.Args[i].K=2
   ·have k1 : ¬ p.Args[i].K=1:=by omega
    simp only [k2,k1,decide_true,decide_false,if_true,if_false,Bool.true_and,Bool.false_and,Bool.or_false,Bool.false_eq_true,Option.bind_some,show ¬ (2:Int)=1 by omega]
    cases bc p.Args[i].V f.Fields[i] with
    | true=>simpa using ih1
    | false=>simp
   ·by_cases k1:p.Args[i].K=1
    ·simp only [k1,decide_true,decide_false,if_true,if_false,Bool.true_and,Bool.false_and,Bool.false_or,Bool.false_eq_true,Option.bind_some,show ¬ (1:Int)=2 by omega]
     cases (ua s p.Args[i].S).2 with
     | true=>
      simp only [if_true,Bool.not_true,Bool.true_and,Bool.false_eq_true,if_false]
      cases bc (ua s p.Args[i].S).1 f.Fields[i] with
      | true=>simpa using ih1
      | false=>simp
     | false=>simpa using ih2
    ·simp only [k1,k2,decide_false,if_false,Bool.false_and,Bool.false_or,Bool.or_false,Bool.false_eq_true,Option.bind_some]
     simpa using ih1
  ·have c1:decide ((i:Int) < (p.Args.length:Int))=false:=decide_eq_false (by omega)
   simp only [c1,Bool.false_eq_true,if_false]
   rw [List.drop_of_length_le (by omega)]
   rfl
theorem Ep (a b:ByteArray):seq a b=seq b a:=by rw [dD,dD]; simp [eq_comm]
theorem Au {N:Nat} (hN:1099000000000≤N) (p:aq) (f:aw) (b:List aC) (hl:p.Args.length≤1048576) (hb:b.length≤2147483648):gJ N p f b=some (bL p f b):=by
 unfold gJ bL bh
 rw [kf (by omega),Ep f.Kind p.Kind]
 simp only [Option.bind_some,orS]
 cases hk:seq p.Kind f.Kind with
 | false=>simp
 | true=>
  by_cases he:p.Args.length=f.Fields.length
  ·have he':decide ((f.Fields.length:Int)=(p.Args.length:Int))=true:=decide_eq_true (by omega)
   have:=(CJ hN p f b he hl hb N 0 b (by omega) (by omega) (by omega))
   simp only [he',he,Bool.not_true,Bool.or_false,Bool.false_eq_true,if_false,true_and,if_true]
   simpa using this
  ·have he':decide ((f.Fields.length:Int)=(p.Args.length:Int))=false:=decide_eq_false (by omega)
   simp [he',he]
theorem xx {N:Nat} (hN:1099000000000≤N) (s:ae) (v:Int) (hl:s.Items.length≤1048576) (hx:∀ x∈s.Items,x.F.Fields.length≤1048576):jx N s v=some (aI s.Items v):=by
 unfold jx
 refine lp0 hN s.Items (by omega) (eS N s v) (fun t=>some (aI t v)) (fun n i x t h1 h2 h3 h4 h5 h6 h7=>?_) (fun n i h1 h2=>?_)
 ·have e:kl N x.F=some x.F:=by
   unfold kl es
   rw [kf (show x.F.Fields.length≤4294967296 by have:=hx x h2; omega)]; rfl
  simp only [eS,h5,if_true,h4,Option.bind_some,h6,h7,e,uA]
  by_cases h:x.Id=v <;> simp [h]
 ·simp only [eS,h2,Bool.false_eq_true,if_false]; rfl
theorem C1 {N:Nat} (hN:1099000000000≤N) (ps:List aq) (s:ae) (ids:List Int) (ha:eD ps≤1048576) (hp:∀ p∈ps,p.Args.length≤1048576) (hs:s.Items.length≤1048576) (hx:∀ x∈s.Items,x.F.Fields.length≤1048576) (hi:ids.length≤1048576) (he:ids.length≤ps.length) :
  jS N ps s ids=some (cE s.Items (ps.take ids.length) ids []):=by
 unfold jS
 have lp:∀ (n i:Nat) (l:List aC),i≤ids.length→ids.length - i < n→l.length+eD (ps.drop i)≤1048576→fc N ps s ids n l i=some (cE s.Items ((ps.take ids.length).drop i) (ids.drop i) l):=by
  intro n
  induction n with
  | zero=>intro i _ _ h; omega
  | succ n ih=>
   intro i l h1 hn hl
   by_cases hlt:i < ids.length
   ·have c1:decide ((i:Int) < (ids.length:Int))=true:=decide_eq_true (by omega)
    have hlt':i < ps.length:=by omega
    have hlt2:i < (ps.take ids.length).length:=by rw [List.length_take]; omega
    rw [List.drop_eq_getElem_cons hlt'] at hl
    rw [gK] at hl
    have hml:=qT ps[i] (aI s.Items ids[i]).1 l
    rw [List.drop_eq_getElem_cons hlt,List.drop_eq_getElem_cons hlt2,cE,List.getElem_take]
    simp only [fc,c1,if_true,ah hlt,ah hlt',Option.bind_some,xx hN s _ hs hx,Au hN ps[i] _ l (hp _ (List.getElem_mem hlt')) (show l.length≤2147483648 by omega),wr1 i (by omega)]
    cases (aI s.Items ids[i]).2 with
    | false=>simp
    | true=>
     cases (bL ps[i] (aI s.Items ids[i]).1 l).2 with
     | false=>simp
     | true=>
      simp only [Bool.not_true,Bool.false_eq_true,if_false,and_self,if_true]
      exact ih (i+1) _ (by omega) (by omega) (by omega)
   ·have c1:decide ((i:Int) < (ids.length:Int))=false:=decide_eq_false (by omega)
    simp only [fc,c1,Bool.false_eq_true,if_false]
    rw [List.drop_of_length_le (show (ps.take ids.length).length≤i by rw [List.length_take]; omega),List.drop_of_length_le (show ids.length≤i by omega)]; rfl
 have:=lp N 0 [] (by omega) (by omega) (by simpa using ha)
 simpa using this
theorem IC {N:Nat} (hN:1099000000000≤N) (p:aq) (s:ae) (l:List aC) (hp:p.Args.length≤1048576) (hs:s.Items.length≤1048576) (hb:l.length≤2147483648):ol N p s l=some (xm p l s.Items:Int):=by
 unfold ol
 have:=lp' hN s.Items (by omega) (dM N p s l) (fun t k=>some (k+(xm p l t:Int))) (fun k t=>0≤k∧k+t.length≤1048576) (0:Int) (by simp; omega) (fun n k i x t h1 h2 h3 h4 h5 h6 hI ih=>by
  simp only [List.length_cons] at hI
  simp only [dM,h5,if_true,h4,Option.bind_some,Au hN p x.F l hp hb,h6]
  unfold xm at ih ⊢
  rw [List.countP_cons]
  cases (bL p x.F l).2 with
  | true=>
   rw [wr (n:=k+1) (by omega) (by omega)]
   simp only [if_true,ih (k+1) (by omega)]; congr 1; omega
  | false=>simpa using ih k (by omega)) (fun n k i h1 h2 hI=>by simp only [dM,h2,Bool.false_eq_true,if_false,xm]; simp)
 simpa using this
structure SzG (g:ci):Prop where
 pl:g.pos.length≤1048576
 sa:eD g.pos≤1048576
 pa:∀ p∈g.pos,p.Args.length≤1048576
 nl:g.neg.length≤1048576
 na:∀ p∈g.neg,p.Args.length≤1048576
 sl:g.s.Items.length≤1048576
 fl:∀ x∈g.s.Items,x.F.Fields.length≤1048576
theorem Er {N:Nat} (hN:1099000000000≤N) (g:ci) (hz:SzG g) (s1:List aa) (s2:Int) (K:List aa→Int→Option (List aa)) (x3:List Int) (x4:List aC × Bool) (hb:x4.1.length≤2147483648) :
  bN N g s1 s2 K x3 x4 N [] 0=bO N s1 s2 K x3 (fb g.s.Items g.neg x4.1):=by
 have hnl:=hz.nl
 refine (lp' hN g.neg (by omega) (fun n (u:List Int) i=>bN N g s1 s2 K x3 x4 n u i) (fun t u=>bO N s1 s2 K x3 (u++fb g.s.Items t x4.1)) (fun u t=>u.length+t.length≤1048576) [] (by simpa using hz.nl) (fun n u i p t g1 g2 g3 g4 g5 g6 gI gh=>?_) (fun n u i g1 g2 gI=>?_)).trans (by simp)
 ·simp only [List.length_cons] at gI
  simp only [bN,g5,if_true,g4,Option.bind_some,IC hN p g.s x4.1 (hz.na p g2) hz.sl hb,bR (show u.length+[((xm p x4.1 g.s.Items:Nat):Int)].length≤4294967296 by simp; omega),g6]
  rw [gh _ (by simp; omega)]
  simp [fb]
 ·simp only [bN,g2,Bool.false_eq_true,if_false]; simp [fb]
theorem wT {N:Nat} (hN:1099000000000≤N) (g:ci) (hz:SzG g) (row ids:List Int) (hr:row.length+1≤g.pos.length) (hi:ids.length≤4294967296) :
  dd N g row ids=some (eB g.s.Items g.pos g.neg row ids):=by
 have hpl:=hz.pl
 unfold dd
 refine (lp' hN ids hi (fun n (u:List aa) i=>bb N g row ids n u i) (fun t u=>some (u++eB g.s.Items g.pos g.neg row t)) (fun u t=>u.length+t.length≤4294967296) [] (by simpa using hi) (fun n u i v t g1 g2 g3 g4 g5 g6 gI gh=>?_) (fun n u i g1 g2 gI=>?_)).trans (by simp)
 ·simp only [List.length_cons] at gI
  have hrow:(row++[v]).length=row.length+1:=by simp
  have hbl:=ro g.s.Items g.pos (row++[v])
  have hsa:=hz.sa
  have e0:cE g.s.Items (g.pos.take (row++[v]).length) (row++[v]) []=okB g.s.Items g.pos (row++[v]):=rfl
  simp only [bb,g5,if_true,g4,Option.bind_some,fU,kf (show row.length≤4294967296 by omega),bR (show row.length+[v].length≤4294967296 by simp; omega),
   C1 hN g.pos g.s (row++[v]) hz.sa hz.pa hz.sl hz.fl (by omega) (by omega),e0,eB,List.flatMap_cons]
  have hlong:(t.flatMap fun b=>mA g.s.Items g.pos g.neg row b)=eB g.s.Items g.pos g.neg row t:=rfl
  cases hok:(okB g.s.Items g.pos (row++[v])).2 with
  | false=>
   have e1:mA g.s.Items g.pos g.neg row v=[]:=by unfold mA; rw [hok]; simp
   simp only [Bool.not_false,if_true,g6,e1,List.nil_append]
   exact gh u (by omega)
  | true=>
   simp only [Bool.not_true,Bool.false_eq_true,if_false]
   by_cases hl:row.length+1=g.pos.length
   ·have c1:decide (((row++[v]).length:Int)=(g.pos.length:Int))=true:=decide_eq_true (by rw [hrow]; omega)
    have e1:mA g.s.Items g.pos g.neg row v=[⟨row++[v],fb g.s.Items g.neg (okB g.s.Items g.pos (row++[v])).1⟩]:=by unfold mA; rw [hok,if_pos rfl,if_pos hl]
    simp only [c1,if_true,Er hN g hz u _ _ _ _ (show (okB g.s.Items g.pos (row++[v])).1.length≤2147483648 by omega),bO,bR (show u.length+[(⟨row++[v],fb g.s.Items g.neg (okB g.s.Items g.pos (row++[v])).1⟩:aa)].length≤4294967296 by simp; omega),Option.bind_some,g6,e1]
    rw [gh _ (by simp; omega),List.append_assoc]; rfl
   ·have c1:decide (((row++[v]).length:Int)=(g.pos.length:Int))=false:=decide_eq_false (by rw [hrow]; omega)
    have e1:mA g.s.Items g.pos g.neg row v=[⟨row++[v],[]⟩]:=by unfold mA; rw [hok,if_pos rfl,if_neg hl]
    simp only [c1,Bool.false_eq_true,if_false,bO,bR (show u.length+[(⟨row++[v],[]⟩:aa)].length≤4294967296 by simp; omega),Option.bind_some,g6,e1]
    rw [gh _ (by simp; omega),List.append_assoc]; rfl
 ·simp only [bb,g2,Bool.false_eq_true,if_false]; simp [eB]
def BK (A:Nat→Nat):Nat→List Nat→Nat→Nat→Prop
 | _,[],_,_=>True
 | k,l :: ls,b,f=>(if k=0 then 1 else b+f*A k)+l≤4294967296∧BK A (k+1) ls l (if k=0 then 1 else b+f*A k)
theorem uc {A:Nat→Nat}:∀ {ls:List Nat} {k b f b' f':Nat},BK A k ls b f→b'≤b→f'≤f→BK A k ls b' f'
 | [],_,_,_,_,_,_,_,_=>trivial
 | l :: ls,k,b,f,b',f',h,hb,hf=>by
  have hm:(if k=0 then 1 else b'+f'*A k)≤(if k=0 then 1 else b+f*A k):=by
   split
   ·exact Nat.le_refl _
   ·exact Nat.add_le_add hb (Nat.mul_le_mul_right _ hf)
  exact ⟨Nat.le_trans (Nat.add_le_add_right hm l) h.1,uc h.2 (Nat.le_refl _) hm⟩
theorem tV (xs:List ao) (ps ns:List aq) (id:Int) (k:Nat) (B F:List aa) (A:List Int):(gf xs ps ns id k B F A).length≤(if k=0 then 1 else B.length+F.length*A.length):=by
 unfold gf
 split
 ·exact qt xs ps ns [] [id]
 ·have h1:=qR xs ps ns [id] B
  have h2:=qR xs ps ns A F
  simp only [List.length_append,List.length_cons,List.length_nil,Nat.zero_add,Nat.mul_one] at h1 h2 ⊢
  omega
theorem A5 {xs:List ao} {ps ns:List aq} {id:Int} {k:Nat} {B F:List aa} {A:List Int} (hB:∀ t∈B,t.Ids.length=k) (hF:∀ t∈F,t.Ids.length=k):∀ t∈gf xs ps ns id k B F A,t.Ids.length=k+1:=by
 intro t ht
 unfold gf at ht
 split at ht
 ·rename_i hk
  rw [(uu t ht).1,hk]; rfl
 ·rcases List.mem_append.1 ht with h | h
  ·obtain ⟨u,hu,h⟩:=List.mem_flatMap.1 h
   rw [(uu t h).1,hB u hu]
  ·obtain ⟨u,hu,h⟩:=List.mem_flatMap.1 h
   rw [(uu t h).1,hF u hu]
theorem Hr {N:Nat} (hN:1099000000000≤N) (g:ci) (hz:SzG g) (s1:List ab) (F:List aa) (k:Nat) (K:List ab→List aa→List aa→Int→Option (List ab)) (a:Int) (A:aR) (ha:idx g.chain.Pos (k:Int)=some a) (hA:idx g.alphas a=some A) (hk:k+1≤g.pos.length)
  (hF:∀ t∈F,t.Ids.length=k) (u0:List aa) (hl:u0.length+F.length*A.L.length≤4294967296) (hAl:A.L.length≤4294967296) (hFl:F.length≤4294967296) :
  cp N g s1 F (k:Int) K N u0 0=bH N s1 (k:Int) K (u0++F.flatMap fun t=>eB g.s.Items g.pos g.neg t.Ids A.L):=by
 refine lp' hN F hFl (fun n (u:List aa) i=>cp N g s1 F (k:Int) K n u i) (fun t u=>bH N s1 (k:Int) K (u++t.flatMap fun t=>eB g.s.Items g.pos g.neg t.Ids A.L)) (fun u t=>u.length+t.length*A.L.length≤4294967296) u0 hl (fun n u i v t g1 g2 g3 g4 g5 g6 gI gh=>?_) (fun n u i g1 g2 gI=>?_)
 ·rw [List.length_cons,Nat.succ_mul] at gI
  have h1:=qt g.s.Items g.pos g.neg v.Ids A.L
  simp only [cp,g5,if_true,g4,Option.bind_some,ha,hA,wT hN g hz v.Ids A.L (by rw [hF v g2]; exact hk) hAl,bR (show u.length+(eB g.s.Items g.pos g.neg v.Ids A.L).length≤4294967296 by omega),g6]
  rw [gh _ (by rw [List.length_append]; omega),List.flatMap_cons,List.append_assoc]
 ·simp only [cp,g2,Bool.false_eq_true,if_false]; simp
theorem GU {N:Nat} (hN:1099000000000≤N) (g:ci) (hz:SzG g) (s1:List ab) (B F:List aa) (k:Nat) (K:List ab→List aa→List aa→Int→Option (List ab)) (a:Int) (A:aR) (ha:idx g.chain.Pos (k:Int)=some a) (hA:idx g.alphas a=some A) (hk:k+1≤g.pos.length)
  (hB:∀ t∈B,t.Ids.length=k) (hF:∀ t∈F,t.Ids.length=k) (hl:B.length+F.length*A.L.length≤4294967296) (hAl:A.L.length≤4294967296) (hFl:F.length≤4294967296) :
  co N g s1 B F (k:Int) K N [] 0=bH N s1 (k:Int) K ((B.flatMap fun t=>eB g.s.Items g.pos g.neg t.Ids [g.id])++F.flatMap fun t=>eB g.s.Items g.pos g.neg t.Ids A.L):=by
 refine (lp' hN B (by omega) (fun n (u:List aa) i=>co N g s1 B F (k:Int) K n u i) (fun t u=>bH N s1 (k:Int) K (u++(t.flatMap fun t=>eB g.s.Items g.pos g.neg t.Ids [g.id])++F.flatMap fun t=>eB g.s.Items g.pos g.neg t.Ids A.L)) (fun u t=>u.length+t.length+F.length*A.L.length≤4294967296) [] (by simpa using hl) (fun n u i v t g1 g2 g3 g4 g5 g6 gI gh=>?_) (fun n u i g1 g2 gI=>?_)).trans (by simp)
 ·rw [List.length_cons] at gI
  have h1:=qt g.s.Items g.pos g.neg v.Ids [g.id]
  simp only [List.length_cons,List.length_nil,Nat.zero_add] at h1
  simp only [co,g5,if_true,g4,Option.bind_some,wT hN g hz v.Ids [g.id] (by rw [hB v g2]; exact hk) (by simp),bR (show u.length+(eB g.s.Items g.pos g.neg v.Ids [g.id]).length≤4294967296 by omega),g6]
  rw [gh _ (by rw [List.length_append]; omega),List.flatMap_cons]
  simp only [List.append_assoc]
 ·simp only [co,g2,Bool.false_eq_true,if_false]
  simp only [List.length_nil,Nat.add_zero] at gI
  rw [Hr hN g hz s1 F k K a A ha hA hk hF u gI hAl hFl]; simp
theorem E2 {N:Nat} (hN:1099000000000≤N) (g:ci) (hz:SzG g) (p1:List ab) (A:Nat→List Int) (hp:p1.length≤g.pos.length) (hA:∀ k,k < p1.length→∃ a i,idx g.chain.Pos (k:Int)=some a∧idx g.alphas a=some i∧i.L=A k) (hAl:∀ k,(A k).length≤4294967296) :
  ∀ (rest:List ab) (n:Nat) (done:List ab) (B F:List aa),rest.length < n→done.length+rest.length=p1.length→(∀ t∈B,t.Ids.length=done.length)→(∀ t∈F,t.Ids.length=done.length)→(∀ i L,rest[i]?=some L→∀ t∈L.Toks,t.Ids.length=done.length+1+i) →
   F.length≤4294967296→BK (fun k=>(A k).length) done.length (rest.map (·.Toks.length)) B.length F.length→bg N g p1 n (done++rest) B F (done.length:Int)=some (done++jR g.s.Items g.pos g.neg g.id A done.length rest B F)
 | [],n,done,B,F,hn,hd,hB,hF,hL,hFl,hf=>by
  obtain ⟨n,rfl⟩:∃ m,n=m+1:=⟨n - 1,by simp at hn; omega⟩
  simp only [List.length_nil,Nat.add_zero] at hd
  have c1:decide ((done.length:Int) < (p1.length:Int))=false:=decide_eq_false (by omega)
  simp only [bg,c1,Bool.false_eq_true,if_false,jR]
 | L :: Ls,n,done,B,F,hn,hd,hB,hF,hL,hFl,hf=>by
  obtain ⟨n,rfl⟩:∃ m,n=m+1:=⟨n - 1,by omega⟩
  simp only [List.length_cons] at hn hd
  obtain ⟨hf1,hf2⟩:=hf
  simp only at hf1 hf2
  have hpl:=hz.pl
  have c1:decide ((done.length:Int) < (p1.length:Int))=true:=decide_eq_true (by omega)
  obtain ⟨a,i,ha,hi,hiA⟩:=hA done.length (by omega)
  have hml:=tV g.s.Items g.pos g.neg g.id done.length B F (A done.length)
  have hmi:=A5 (xs:=g.s.Items) (ps:=g.pos) (ns:=g.neg) (id:=g.id) (A:=A done.length) hB hF
  -- the end of a round
  have key:∀ M,M=gf g.s.Items g.pos g.neg g.id done.length B F (A done.length)→bH N (done++L :: Ls) (done.length:Int) (bg N g p1 n) M=some (done++jR g.s.Items g.pos g.neg g.id A done.length (L :: Ls) B F):=by
   intro M hM
   subst hM
   have e1:idx (done++L :: Ls) (done.length:Int)=some L:=by rw [jZ]; simp
   have e2:(done++L :: Ls).set ((done.length:Int)).toNat ⟨L.Toks++gf g.s.Items g.pos g.neg g.id done.length B F (A done.length)⟩=(done++[⟨L.Toks++gf g.s.Items g.pos g.neg g.id done.length B F (A done.length)⟩])++Ls:=by
    rw [Int.toNat_natCast,List.set_append_right _ _ (Nat.le_refl _),Nat.sub_self,List.set_cons_zero,List.append_assoc]; rfl
   simp only [bH,e1,Option.bind_some,d6,kf (show L.Toks.length≤4294967296 by omega),bR (show L.Toks.length+(gf g.s.Items g.pos g.neg g.id done.length B F (A done.length)).length≤4294967296 by omega),e2,wr1 done.length (by omega)]
   have:=E2 hN g hz p1 A hp hA hAl Ls n (done++[⟨L.Toks++gf g.s.Items g.pos g.neg g.id done.length B F (A done.length)⟩]) L.Toks (gf g.s.Items g.pos g.neg g.id done.length B F (A done.length)) (by omega) (by simp; omega)
    (fun t ht=>by have:=hL 0 L rfl t ht; simpa using this) (fun t ht=>by simpa using hmi t ht) (fun j M hj t ht=>by have:=hL (j+1) M (by simpa using hj) t ht; simp only [List.length_append,List.length_cons,List.length_nil]; omega) (by omega)
    (by simp only [List.length_append,List.length_cons,List.length_nil]; exact uc hf2 (Nat.le_refl _) hml)
   simp only [List.length_append,List.length_cons,List.length_nil,Nat.zero_add] at this
   rw [this,List.append_assoc]; rfl
  simp only [bg,c1,if_true]
  by_cases h0:done.length=0
  ·have c2:decide ((done.length:Int)=0)=true:=decide_eq_true (by omega)
   simp only [c2,if_true,wT hN g hz [] [g.id] (by simp; omega) (by simp),Option.bind_some]
   exact key _ (by unfold gf; rw [if_pos h0])
  ·have c2:decide ((done.length:Int)=0)=false:=decide_eq_false (by omega)
   rw [if_neg h0] at hf1
   simp only [c2,Bool.false_eq_true,if_false]
   rw [GU hN g hz _ B F done.length _ a i ha hi (by omega) hB hF (by rw [hiA]; omega) (by rw [hiA]; exact hAl _) hFl,hiA]
   exact key _ (by unfold gf; rw [if_neg h0])
theorem Jx {N:Nat} (hN:1099000000000≤N) (g:ci) (hz:SzG g) (ls:List ab) (A:Nat→List Int) (hp:ls.length≤g.pos.length) (hA:∀ k,k < ls.length→∃ a i,idx g.chain.Pos (k:Int)=some a∧idx g.alphas a=some i∧i.L=A k) (hAl:∀ k,(A k).length≤4294967296)
  (hL:∀ i L,ls[i]?=some L→∀ t∈L.Toks,t.Ids.length=i+1) (hf:BK (fun k=>(A k).length) 0 (ls.map (·.Toks.length)) 0 0):fv N g ls=some (jR g.s.Items g.pos g.neg g.id A 0 ls [] []):=by
 have hpl:=hz.pl
 have:=E2 hN g hz ls A hp hA hAl ls N [] [] [] (by omega) (by simp) (by simp) (by simp) (fun i L h t ht=>by rw [hL i L h t ht]; simp; omega) (by simp) (by simpa using hf)
 unfold fv
 simpa using this
theorem Cv {N:Nat} (hN:1099000000000≤N) (r:ac) (b:Bool) (hl:r.Pats.length≤1048576):qb N r b=some (r.Pats.filter fun p=>p.Not == b):=by
 unfold qb
 refine (lp' hN r.Pats (by omega) (gA N r b) (fun t u=>some (u++t.filter fun p=>p.Not == b)) (fun u t=>u.length+t.length≤1048576) [] (by simpa using hl) (fun n u i p t g1 g2 g3 g4 g5 g6 gI ih=>?_) (fun n u i g1 g2 gI=>?_)).trans (by simp)
 ·simp only [List.length_cons] at gI
  simp only [gA,g5,if_true,g4,Option.bind_some,List.filter_cons,g6]
  cases hb:(p.Not == b) with
  | true=>
   simp only [if_true,bR (show u.length+[p].length≤4294967296 by simp; omega),Option.bind_some]
   rw [ih _ (by simp; omega)]; simp
  | false=>
   simp only [Bool.false_eq_true,if_false]
   exact ih u (by omega)
 ·simp only [gA,g2,Bool.false_eq_true,if_false]; simp
theorem lK {α:Type} (d:List α) (x y:α) (t:List α):(d++x :: t).set d.length y=(d++[y])++t:=by
 rw [List.set_append_right _ _ (Nat.le_refl _),Nat.sub_self,List.set_cons_zero,List.append_assoc]; rfl
theorem dR {α:Type} (d:List α) (x:α) (t:List α):idx (d++x :: t) (d.length:Int)=some x:=by rw [jZ]; simp
theorem CG {N:Nat} (hN:1099000000000≤N) (g:ci) (hz:SzG g) (by_:Int) (x1:aw × Bool) (s1:List aa) (s2:Int) (K:List aa→Int→Option (List aa)) (x2:aa) (x3:List aC × Bool) (hb:x3.1.length≤2147483648) :
  ∀ (ns:List aq) (n:Nat) (dn:List aq) (dh h:List Int),ns.length < n→g.neg=dn++ns→dh.length=dn.length→h.length=ns.length →
   bJ N g by_ x1 s1 s2 K x2 x3 n (dh++h) (dn.length:Int)=K (s1.set s2.toNat ⟨x2.Ids,dh++jK x1.1 x3.1 by_ ns h⟩) (IntKind.i64.wrap (s2+1))
 | [],n,dn,dh,h,hn,hg,hd,hh=>by
  obtain ⟨n,rfl⟩:∃ m,n=m+1:=⟨n - 1,by simp at hn; omega⟩
  have c1:decide ((dn.length:Int) < (g.neg.length:Int))=false:=decide_eq_false (by rw [hg]; simp)
  simp only [bJ,c1,Bool.false_eq_true,if_false,jK]
 | p :: ns,n,dn,dh,[],hn,hg,hd,hh=>by simp at hh
 | p :: ns,n,dn,dh,x :: h,hn,hg,hd,hh=>by
  obtain ⟨n,rfl⟩:∃ m,n=m+1:=⟨n - 1,by omega⟩
  simp only [List.length_cons] at hn hh
  have hnl:=hz.nl
  have hl:g.neg.length=dn.length+(ns.length+1):=by rw [hg]; simp
  have c1:decide ((dn.length:Int) < (g.neg.length:Int))=true:=decide_eq_true (by omega)
  have e1:idx g.neg (dn.length:Int)=some p:=by rw [hg]; exact dR _ _ _
  have e2:idx (dh++x :: h) (dn.length:Int)=some x:=by rw [← hd]; exact dR _ _ _
  have hp:p∈g.neg:=by rw [hg]; simp
  simp only [bJ,c1,if_true,e1,Option.bind_some,Au hN p x1.1 x3.1 (hz.na p hp) hb,wr1 dn.length (by omega),jK]
  have ih:=CG hN g hz by_ x1 s1 s2 K x2 x3 hb ns n (dn++[p])
  simp only [List.length_append,List.length_cons,List.length_nil,Nat.zero_add] at ih
  cases hm:(bL p x1.1 x3.1).2 with
  | true=>
   simp only [if_true,e2,Option.bind_some]
   have e3:(dh++x :: h).set ((dn.length:Int)).toNat (IntKind.i64.wrap (x+by_))=(dh++[IntKind.i64.wrap (x+by_)])++h:=by rw [Int.toNat_natCast,← hd]; exact lK _ _ _ _
   rw [e3,ih (dh++[IntKind.i64.wrap (x+by_)]) h (by omega) (by rw [hg]; simp) (by simp [hd]) (by omega)]
   simp
  | false=>
   simp only [Bool.false_eq_true,if_false]
   have:=ih (dh++[x]) h (by omega) (by rw [hg]; simp) (by simp [hd]) (by omega)
   simp only [List.append_assoc,List.cons_append,List.nil_append] at this
   exact this
theorem Cg {N:Nat} (hN:1099000000000≤N) (g:ci) (hz:SzG g) (p1:List aa) (by_:Int) (x1:aw × Bool) (hl:p1.length≤4294967296):∀ (ts:List aa) (n:Nat) (d:List aa),ts.length < n→d.length+ts.length=p1.length→(∀ t∈ts,t.Ids.length≤g.pos.length∧t.Hits.length=g.neg.length) →
  bl N g p1 by_ x1 n (d++ts) (d.length:Int)=some (d++iN g.s.Items g.pos g.neg x1.1 by_ ts)
 | [],n,d,hn,hd,ht=>by
  obtain ⟨n,rfl⟩:∃ m,n=m+1:=⟨n - 1,by simp at hn; omega⟩
  simp only [List.length_nil,Nat.add_zero] at hd
  have c1:decide ((d.length:Int) < (p1.length:Int))=false:=decide_eq_false (by omega)
  simp only [bl,c1,Bool.false_eq_true,if_false,iN,List.map_nil]
 | t :: ts,n,d,hn,hd,ht=>by
  obtain ⟨n,rfl⟩:∃ m,n=m+1:=⟨n - 1,by omega⟩
  simp only [List.length_cons] at hn hd
  have hpl:=hz.pl
  have hsa:=hz.sa
  have c1:decide ((d.length:Int) < (p1.length:Int))=true:=decide_eq_true (by omega)
  obtain ⟨h1,h2⟩:=ht t (by simp)
  have hbl:=ro g.s.Items g.pos t.Ids
  have e0:cE g.s.Items (g.pos.take t.Ids.length) t.Ids []=okB g.s.Items g.pos t.Ids:=rfl
  have ih:=fun y=>Cg hN g hz p1 by_ x1 hl ts n (d++[y]) (by omega) (by simp; omega) (fun u hu=>ht u (by simp [hu]))
  simp only [List.length_append,List.length_cons,List.length_nil,Nat.zero_add] at ih
  simp only [bl,c1,if_true,dR,Option.bind_some,C1 hN g.pos g.s t.Ids hz.sa hz.pa hz.sl hz.fl (by omega) h1,e0,wr1 d.length (by omega)]
  have e4:iN g.s.Items g.pos g.neg x1.1 by_ (t :: ts)=(if (okB g.s.Items g.pos t.Ids).2=true then ⟨t.Ids,jK x1.1 (okB g.s.Items g.pos t.Ids).1 by_ g.neg t.Hits⟩ else t) :: iN g.s.Items g.pos g.neg x1.1 by_ ts:=rfl
  rw [e4]
  cases hok:(okB g.s.Items g.pos t.Ids).2 with
  | false=>
   simp only [Bool.not_false,if_true,Bool.false_eq_true,if_false]
   have:=ih t
   simp only [List.append_assoc,List.cons_append,List.nil_append] at this
   exact this
  | true=>
   simp only [Bool.not_true,Bool.false_eq_true,if_false,if_true]
   have h3:=CG hN g hz by_ x1 (d++t :: ts) (d.length:Int) (bl N g p1 by_ x1 n) t (okB g.s.Items g.pos t.Ids) (by omega) g.neg N [] [] t.Hits (by have:=hz.nl; omega) rfl rfl h2
   simp only [List.nil_append,List.length_nil,Int.natCast_zero,Int.toNat_natCast] at h3
   have h3':bJ N g by_ x1 (d++t :: ts) (d.length:Int) (bl N g p1 by_ x1 n) t (okB g.s.Items g.pos t.Ids) N t.Hits 0=_:=h3
   rw [h3',lK,wr1 d.length (by omega),ih,List.append_assoc]; rfl
theorem GW {N:Nat} (hN:1099000000000≤N) (g:ci) (hz:SzG g) (ts:List aa) (by_:Int) (hl:ts.length≤4294967296) (ht:∀ t∈ts,t.Ids.length≤g.pos.length∧t.Hits.length=g.neg.length) :
  eU N g ts by_=some (iN g.s.Items g.pos g.neg (aI g.s.Items g.id).1 by_ ts):=by
 unfold eU
 rw [xx hN g.s g.id hz.sl hz.fl,Option.bind_some]
 have:=Cg hN g hz ts by_ (aI g.s.Items g.id) hl ts N [] (by omega) (by simp) ht
 simpa using this
structure CE (as:List aR) (r:ac) (c:aD) (row:aG):Prop where
 ne:1≤row.Levels.length
 ll:row.Levels.length=(pos r.Pats).length
 ids:∀ i L,row.Levels[i]?=some L→∀ t∈L.Toks,t.Ids.length=i+1
 hit:∀ L,row.Levels[row.Levels.length - 1]?=some L→∀ t∈L.Toks,t.Hits.length=(neg r.Pats).length
 at_:∀ k,k < row.Levels.length→∃ a i,idx c.Pos (k:Int)=some a∧idx as a=some i
 fit:BK (fun k=>(ta as c k).length) 0 (row.Levels.map (·.Toks.length)) 0 0
 al:∀ k,(ta as c k).length≤4294967296
theorem AK {A:Nat→Nat}:∀ {ls:List Nat} {k b f:Nat},BK A k ls b f→∀ l∈ls,l≤4294967296
 | [],_,_,_,_,_,h=>by cases h
 | l :: ls,k,b,f,h,x,hx=>by
  rcases List.mem_cons.1 hx with rfl | hx
  ·have:=h.1; omega
  ·exact AK h.2 x hx
theorem C9 {row:aG} {L:ab} {M:List aa} {i:Nat} (hL:row.Levels[i]?=some L) (hM:M.length=L.Toks.length):(row.Levels.set i ⟨M⟩).map (·.Toks.length)=row.Levels.map (·.Toks.length):=by
 rw [List.map_set]
 have:(row.Levels.map (·.Toks.length))[i]?=some L.Toks.length:=by rw [List.getElem?_map,hL]; rfl
 apply List.ext_getElem?
 intro j
 rw [List.getElem?_set]
 split
 ·rename_i e; subst e
  split
  ·rw [this,← hM]
  ·rename_i hlt; rw [List.length_map] at hlt; have:=(List.getElem?_eq_some_iff.1 hL).1; omega
 ·rfl
theorem tX {as:List aR} {c:aD} {k:Nat} {a:Int} {i:aR} (h1:idx c.Pos (k:Int)=some a) (h2:idx as a=some i):i.L=ta as c k:=by
 unfold ta
 rw [jZ] at h1
 rw [h1]
 simp only [h2]
structure SzR (r:ac):Prop where
 pl:r.Pats.length≤1048576
 sa:eD r.Pats≤1048576
 pa:∀ p∈r.Pats,p.Args.length≤1048576
theorem Ex {r:ac} {c:aD} {as:List aR} {s:ae} {id:Int} (hr:SzR r) (hs:s.Items.length≤1048576) (hx:∀ x∈s.Items,x.F.Fields.length≤1048576):SzG ⟨pos r.Pats,neg r.Pats,c,as,s,id⟩:=by
 have h1:=uH r.Pats
 have h2:=hr.sa
 have h3:(pos r.Pats).length≤r.Pats.length:=List.length_filter_le _ _
 have h4:(neg r.Pats).length≤r.Pats.length:=List.length_filter_le _ _
 have h5:=hr.pl
 exact ⟨by simp only; omega,by simp only; omega,fun p hp=>hr.pa p (List.mem_filter.1 hp).1,by simp only; omega,fun p hp=>hr.pa p (List.mem_filter.1 hp).1,hs,hx⟩
theorem FS (l:List aq):(l.filter fun p=>p.Not == true)=neg l:=by
 unfold neg; congr 1; funext p; cases p.Not <;> rfl
theorem La {N:Nat} (hN:1099000000000≤N) (r:ac) (c:aD) (as:List aR) (s:ae) (id:Int) (row:aG) (hr:SzR r) (hs:s.Items.length≤1048576) (hx:∀ x∈s.Items,x.F.Fields.length≤1048576) (ok:CE as r c row) {β:Type} (K:List ab→Option β) :
  ((idx row.Levels (IntKind.i64.wrap ((row.Levels.length:Int) - 1))).bind fun x8=>((eU N ⟨pos r.Pats,neg r.Pats,c,as,s,id⟩ x8.Toks 1).bind fun x9=>((fv N ⟨pos r.Pats,neg r.Pats,c,as,s,id⟩ (row.Levels.set (IntKind.i64.wrap ((row.Levels.length:Int) - 1)).toNat (⟨x9⟩:ab))).bind fun x10=>K x10)))
   = K (oZ s.Items as (aI s.Items id).1 id r c row).Levels:=by
 have hg:=Ex (c:=c) (as:=as) (s:=s) (id:=id) hr hs hx
 have hne:=ok.ne
 have hll:=ok.ll
 have hpl:=hg.pl
 simp only at hpl
 have ew:IntKind.i64.wrap ((row.Levels.length:Int) - 1)=((row.Levels.length - 1:Nat):Int):=by
  rw [show ((row.Levels.length:Int) - 1)=((row.Levels.length - 1:Nat):Int) by omega]
  exact wr (by omega) (by omega)
 have hlt:row.Levels.length - 1 < row.Levels.length:=by omega
 have hL:row.Levels[row.Levels.length - 1]?=some row.Levels[row.Levels.length - 1]:=List.getElem?_eq_getElem hlt
 have hlen:(row.Levels[row.Levels.length - 1]).Toks.length≤4294967296:=AK ok.fit _ (List.mem_map.2 ⟨_,List.getElem_mem hlt,rfl⟩)
 rw [ew,ah hlt,Option.bind_some,GW hN _ hg _ 1 hlen (fun t ht=>⟨by have:=ok.ids _ _ hL t ht; simp only; omega,ok.hit _ hL t ht⟩),Option.bind_some,Int.toNat_natCast]
 have hset:=C9 (M:=iN s.Items (pos r.Pats) (neg r.Pats) (aI s.Items id).1 1 (row.Levels[row.Levels.length - 1]).Toks) hL (uy _)
 have hgrow:=Jx hN _ hg (row.Levels.set (row.Levels.length - 1) ⟨iN s.Items (pos r.Pats) (neg r.Pats) (aI s.Items id).1 1 (row.Levels[row.Levels.length - 1]).Toks⟩) (ta as c) (by simp only [List.length_set]; omega)
  (fun k hk=>by
   rw [List.length_set] at hk
   obtain ⟨a,i,h1,h2⟩:=ok.at_ k hk
   exact ⟨a,i,h1,h2,tX h1 h2⟩) ok.al
  (fun i L hi t ht=>by
   rw [List.getElem?_set] at hi
   split at hi
   ·rename_i e; subst e
    ·simp only [Option.some.injEq] at hi
     subst hi
     have h1:=u6 (xs:=s.Items) (ps:=pos r.Pats) (ns:=neg r.Pats) (f:=(aI s.Items id).1) (b:=1) (row.Levels[row.Levels.length - 1]).Toks
     have h2:t.Ids∈(row.Levels[row.Levels.length - 1]).Toks.map (·.Ids):=by rw [← h1]; exact List.mem_map.2 ⟨t,ht,rfl⟩
     obtain ⟨u,hu,e⟩:=List.mem_map.1 h2
     rw [← e]; exact ok.ids _ _ hL u hu
   ·exact ok.ids i L hi t ht)
  (by rw [hset]; exact ok.fit)
 rw [hgrow,Option.bind_some]
 unfold oZ fG
 rw [hL]
theorem Fv {N:Nat} (hN:1099000000000≤N) (d:bi) (n:bB) (m:aK) (s:ae) (id:Int) (as:List aR) (hs:s.Items.length≤1048576) (hx:∀ x∈s.Items,x.F.Fields.length≤1048576) (hlr:m.Rules.length≤1048576) :
  ∀ (ws:List aG) (rs:List ac) (cs:List aD) (k:Nat) (dr:List ac) (dc:List aD) (dw:List aG),ws.length < k→d.Rules=dr++rs→n.Chains=dc++cs→dw.length+ws.length=m.Rules.length→dr.length=dw.length→dc.length=dw.length→rs.length=ws.length→cs.length=ws.length →
   (∀ (i:Nat) (r:ac) (c:aD) (w:aG),rs[i]?=some r→cs[i]?=some c→ws[i]?=some w→SzR r∧CE as r c w) →
   de N d n m s id as k (dw++ws) (dw.length:Int)=some (as,dw++mJ (oZ s.Items as (aI s.Items id).1 id) rs cs ws)
 | [],rs,cs,k,dr,dc,dw,hk,h1,h2,h3,h4,h5,h6,h7,h8=>by
  obtain ⟨k,rfl⟩:∃ j,k=j+1:=⟨k - 1,by simp at hk; omega⟩
  simp only [List.length_nil,Nat.add_zero] at h3
  have c1:decide ((dw.length:Int) < (m.Rules.length:Int))=false:=decide_eq_false (by omega)
  simp only [de,c1,Bool.false_eq_true,if_false]
  cases rs <;> cases cs <;> simp [mJ]
 | w :: ws,[],cs,k,dr,dc,dw,hk,h1,h2,h3,h4,h5,h6,h7,h8=>by simp at h6
 | w :: ws,r :: rs,[],k,dr,dc,dw,hk,h1,h2,h3,h4,h5,h6,h7,h8=>by simp at h7
 | w :: ws,r :: rs,c :: cs,k,dr,dc,dw,hk,h1,h2,h3,h4,h5,h6,h7,h8=>by
  obtain ⟨k,rfl⟩:∃ j,k=j+1:=⟨k - 1,by omega⟩
  simp only [List.length_cons] at hk h3 h6 h7
  have c1:decide ((dw.length:Int) < (m.Rules.length:Int))=true:=decide_eq_true (by omega)
  obtain ⟨q1,q2⟩:=h8 0 r c w rfl rfl rfl
  have e1:idx d.Rules (dw.length:Int)=some r:=by rw [h1,← h4]; exact dR _ _ _
  have e2:idx n.Chains (dw.length:Int)=some c:=by rw [h2,← h5]; exact dR _ _ _
  simp only [de,c1,if_true,dR,Option.bind_some,ni,e1,e2,Cv hN r false q1.pl,Cv hN r true q1.pl,Ig,FS]
  rw [La hN r c as s id w q1 hs hx q2 (fun x10=>de N d n m s id as k ((dw++w :: ws).set (dw.length:Int).toNat (⟨x10⟩:aG)) (IntKind.i64.wrap ((dw.length:Int)+1)))]
  rw [Int.toNat_natCast,lK,wr1 dw.length (by omega)]
  have:=Fv hN d n m s id as hs hx hlr ws rs cs k (dr++[r]) (dc++[c]) (dw++[⟨(oZ s.Items as (aI s.Items id).1 id r c w).Levels⟩]) (by omega) (by rw [h1]; simp) (by rw [h2]; simp) (by simp; omega) (by simp [h4]) (by simp [h5]) (by omega) (by omega)
   (fun i r' c' w' a1 a2 a3=>h8 (i+1) r' c' w' (by simpa using a1) (by simpa using a2) (by simpa using a3))
  simp only [List.length_append,List.length_cons,List.length_nil,Nat.zero_add] at this
  rw [this,List.append_assoc]
  rfl
theorem Fk {N:Nat} (hN:1099000000000≤N) (d:bi) (n:bB) (m:aK) (s:ae) (id:Int) (f:aw × Bool) (ha:∀ a∈n.Alphas,a.At.length≤1048576) (hl:n.Alphas.length≤1048576) :
  ∀ (as:List ak) (k:Nat) (da:List ak) (di is:List aR),as.length < k→n.Alphas=da++as→di.length=da.length→is.length=as.length→(∀ i∈is,i.L.length+1≤4294967296) →
   df N d n m s id f k (di++is) (da.length:Int)=de N d n m s id (di++bT f.1 id as is) N m.Rules 0
 | [],k,da,di,is,hk,h1,h2,h3,h4=>by
  obtain ⟨k,rfl⟩:∃ j,k=j+1:=⟨k - 1,by simp at hk; omega⟩
  have c1:decide ((da.length:Int) < (n.Alphas.length:Int))=false:=decide_eq_false (by rw [h1]; simp)
  simp only [df,c1,Bool.false_eq_true,if_false,bT]
 | a :: as,k,da,di,[],hk,h1,h2,h3,h4=>by simp at h3
 | a :: as,k,da,di,i :: is,hk,h1,h2,h3,h4=>by
  obtain ⟨k,rfl⟩:∃ j,k=j+1:=⟨k - 1,by omega⟩
  simp only [List.length_cons] at hk h3
  have hal:n.Alphas.length=da.length+(as.length+1):=by rw [h1]; simp
  have c1:decide ((da.length:Int) < (n.Alphas.length:Int))=true:=decide_eq_true (by omega)
  have e1:idx n.Alphas (da.length:Int)=some a:=by rw [h1]; exact dR _ _ _
  have e2:idx (di++i :: is) (da.length:Int)=some i:=by rw [← h2]; exact dR _ _ _
  have ham:a∈n.Alphas:=by rw [h1]; simp
  have hil:=h4 i (by simp)
  have ih:=fun y=>Fk hN d n m s id f ha hl as k (da++[a]) (di++[y]) is (by omega) (by rw [h1]; simp) (by simp [h2]) (by omega) (fun j hj=>h4 j (by simp [hj]))
  simp only [List.length_append,List.length_cons,List.length_nil,Nat.zero_add,List.append_assoc,List.cons_append,List.nil_append] at ih
  simp only [df,c1,if_true,e1,Option.bind_some,FO hN a f.1 (ha a ham),wr1 da.length (by omega),bT]
  cases hp:eu a f.1 with
  | true=>
   simp only [if_true,e2,Option.bind_some,bR (show i.L.length+[id].length≤4294967296 by simpa using hil)]
   have e3:(di++i :: is).set ((da.length:Int)).toNat (⟨i.L++[id]⟩:aR)=di++⟨i.L++[id]⟩ :: is:=by
    rw [Int.toNat_natCast,← h2,lK,List.append_assoc]; rfl
   rw [e3]
   exact ih _
  | false=>
   simp only [Bool.false_eq_true,if_false]
   exact ih i
structure HW (d:bi) (n:bB) (m:aK) (s:ae) (id:Int):Prop where
 sl:s.Items.length≤1048576
 fl:∀ x∈s.Items,x.F.Fields.length≤1048576
 at_:∀ a∈n.Alphas,a.At.length≤1048576
 al:n.Alphas.length≤1048576
 rl:m.Rules.length≤1048576
 la:m.Alphas.length=n.Alphas.length
 lc:n.Chains.length=m.Rules.length
 ld:d.Rules.length=m.Rules.length
 il:∀ i∈m.Alphas,i.L.length+1≤4294967296
 rows:∀ (i:Nat) (r:ac) (c:aD) (w:aG),d.Rules[i]?=some r→n.Chains[i]?=some c→m.Rules[i]?=some w→SzR r∧CE (bT (aI s.Items id).1 id n.Alphas m.Alphas) r c w
theorem KX {N:Nat} (hN:1099000000000≤N) (d:bi) (n:bB) (m:aK) (s:ae) (id:Int) (h:HW d n m s id):mz N d n m s id=some ((BF d n m s id).Alphas,(BF d n m s id).Rules):=by
 have hal:=h.al
 have hrl:=h.rl
 unfold mz
 rw [xx hN s id h.sl h.fl,Option.bind_some]
 have h1:=Fk hN d n m s id (aI s.Items id) h.at_ h.al n.Alphas N [] [] m.Alphas (by omega) rfl rfl h.la h.il
 simp only [List.nil_append,List.length_nil,Int.natCast_zero] at h1
 have h1':df N d n m s id (aI s.Items id) N m.Alphas 0=_:=h1
 rw [h1']
 have h2:=Fv hN d n m s id (bT (aI s.Items id).1 id n.Alphas m.Alphas) h.sl h.fl h.rl m.Rules d.Rules n.Chains N [] [] [] (by omega) rfl rfl (by simp) rfl rfl h.ld h.lc h.rows
 simp only [List.nil_append,List.length_nil,Int.natCast_zero] at h2
 exact h2
def InR (x:Int):Prop:=IntKind.i64.wrap x=x
theorem Ef {N:Nat} (by_ s2:Int) (K:List aa→Int→Option (List aa)) (f:aw) (l:List aC) (hby:by_=1∨by_ = -1) (x3:List Int) (hx:x3.length≤1048576) (done:List aa) (hs2:s2=(done.length:Int)) (ids:List Int) (rest:List aa) :
  ∀ (ns:List aq) (n:Nat) (dx dh h:List Int),ns.length < n→x3=dx++o9 ns f l→dh.length=dx.length→h.length=ns.length→(∀ x∈h,InR x) →
   cK N by_ s2 K (l,true) x3 n (done++⟨ids,dh++h⟩ :: rest) (dx.length:Int)=K (done++⟨ids,dh++jK f l by_ ns h⟩ :: rest) (IntKind.i64.wrap (s2+1))
 | [],n,dx,dh,h,hn,h1,h2,h3,h4=>by
  obtain ⟨n,rfl⟩:∃ m,n=m+1:=⟨n - 1,by simp at hn; omega⟩
  have c1:decide ((dx.length:Int) < (x3.length:Int))=false:=decide_eq_false (by rw [h1]; simp [o9])
  simp only [cK,c1,Bool.false_eq_true,if_false,Option.bind_some,jK]
 | p :: ns,n,dx,dh,[],hn,h1,h2,h3,h4=>by simp at h3
 | p :: ns,n,dx,dh,x :: h,hn,h1,h2,h3,h4=>by
  obtain ⟨n,rfl⟩:∃ m,n=m+1:=⟨n - 1,by omega⟩
  simp only [List.length_cons] at hn h3
  have hl:x3.length=dx.length+(ns.length+1):=by rw [h1]; simp [o9]
  have c1:decide ((dx.length:Int) < (x3.length:Int))=true:=decide_eq_true (by omega)
  have e0:o9 (p :: ns) f l=(if (bL p f l).2=true then 1 else 0) :: o9 ns f l:=rfl
  have e1:idx x3 (dx.length:Int)=some (if (bL p f l).2=true then 1 else 0):=by rw [h1,e0]; exact dR _ _ _
  have e2:idx (done++(⟨ids,dh++x :: h⟩:aa) :: rest) s2=some ⟨ids,dh++x :: h⟩:=by rw [hs2]; exact dR _ _ _
  have e3:idx (dh++x :: h) (dx.length:Int)=some x:=by rw [← h2]; exact dR _ _ _
  have hxr:IntKind.i64.wrap x=x:=h4 x (by simp)
  have e4:IntKind.i64.wrap (x+IntKind.i64.wrap (by_*(if (bL p f l).2=true then 1 else 0)))=if (bL p f l).2=true then IntKind.i64.wrap (x+by_) else x:=by
   split
   ·rw [Int.mul_one]
    have:IntKind.i64.wrap by_=by_:=by rcases hby with rfl | rfl <;> decide
    rw [this]
   ·rw [Int.mul_zero,show IntKind.i64.wrap 0=0 by decide,Int.add_zero,hxr]
  have e5:∀ y:Int,(dh++x :: h).set ((dx.length:Int)).toNat y=(dh++[y])++h:=fun y=>by rw [Int.toNat_natCast,← h2]; exact lK _ _ _ _
  have e6:∀ y:aa,(done++(⟨ids,dh++x :: h⟩:aa) :: rest).set s2.toNat y=done++y :: rest:=fun y=>by rw [hs2,Int.toNat_natCast,lK,List.append_assoc]; rfl
  simp only [cK,c1,if_true,Option.bind_some,e1,e2,e3,e4,e5,e6,wr1 dx.length (by omega)]
  have:=Ef (N:=N) by_ s2 K f l hby x3 hx done hs2 ids rest ns n (dx++[if (bL p f l).2=true then 1 else 0]) (dh++[if (bL p f l).2=true then IntKind.i64.wrap (x+by_) else x]) h (by omega) (by rw [h1,e0]; simp) (by simp [h2]) (by omega) (fun z hz=>h4 z (by simp [hz]))
  simp only [List.length_append,List.length_cons,List.length_nil,Nat.zero_add] at this
  rw [this,jK]
  simp only [List.append_assoc,List.cons_append,List.nil_append]
theorem JD {N:Nat} (hN:1099000000000≤N) (r:ac) (s:ae) (hz:SzS r s) (f:aw) (by_:Int) (hby:by_=1∨by_ = -1) (toks:List aa) (hl:toks.length≤4294967296)
  (ht:∀ t∈toks,t.Ids.length≤ai r.Pats∧t.Hits.length=(neg r.Pats).length∧∀ x∈t.Hits,InR x):mH N r s toks f by_=some (iN s.Items (pos r.Pats) (neg r.Pats) f by_ toks):=by
 have hpl:=hz.pl
 have hnl:(neg r.Pats).length≤r.Pats.length:=List.length_filter_le _ _
 unfold mH
 have lp:∀ (ts:List aa) (n:Nat) (done:List aa),ts.length < n→done.length+ts.length≤4294967296→(∀ t∈ts,t∈toks)→bS N r s f by_ n (done++ts) (done.length:Int)=some (done++iN s.Items (pos r.Pats) (neg r.Pats) f by_ ts):=by
  intro ts
  induction ts with
  | nil=>
   intro n done hn hd hm
   obtain ⟨n,rfl⟩:∃ m,n=m+1:=⟨n - 1,by simp at hn; omega⟩
   have c1:decide ((done.length:Int) < ((done++[]).length:Int))=false:=decide_eq_false (by simp)
   simp only [bS,c1,Bool.false_eq_true,if_false,iN,List.map_nil]
  | cons t ts ih=>
   intro n done hn hd hm
   obtain ⟨n,rfl⟩:∃ m,n=m+1:=⟨n - 1,by omega⟩
   simp only [List.length_cons] at hn hd
   have c1:decide ((done.length:Int) < ((done++t :: ts).length:Int))=true:=decide_eq_true (by simp; omega)
   obtain ⟨h1,h2,h3⟩:=ht t (hm t (by simp))
   obtain ⟨l,g1,g2,g3⟩:=Bx hN r s hz t.Ids h1
   simp only [bS,c1,if_true,dR,Option.bind_some,g1,I2 hN r f l hz.pl hz.pa g3]
   have e4:iN s.Items (pos r.Pats) (neg r.Pats) f by_ (t :: ts)=(if (okB s.Items (pos r.Pats) t.Ids).2=true then ⟨t.Ids,jK f (okB s.Items (pos r.Pats) t.Ids).1 by_ (neg r.Pats) t.Hits⟩ else t) :: iN s.Items (pos r.Pats) (neg r.Pats) f by_ ts:=rfl
   rw [e4]
   have next:=fun y=>ih n (done++[y]) (by omega) (by simp; omega) (fun u hu=>hm u (by simp [hu]))
   simp only [List.length_append,List.length_cons,List.length_nil,Nat.zero_add,List.append_assoc,List.cons_append,List.nil_append] at next
   cases hok:(okB s.Items (pos r.Pats) t.Ids).2 with
   | false=>
    simp only [Bool.false_eq_true,if_false]
    have:∀ n,cK N by_ (done.length:Int) (bS N r s f by_ n) (l,false) (o9 (neg r.Pats) f l) N (done++t :: ts) 0=bS N r s f by_ n (done++t :: ts) (IntKind.i64.wrap ((done.length:Int)+1)):=fun n=>by
     obtain ⟨M,rfl⟩:∃ m,N=m+1:=⟨N - 1,by omega⟩
     unfold cK
     split <;> simp
    rw [this,wr1 done.length (by omega)]
    exact next t
   | true=>
    obtain rfl:=g2 hok
    simp only [if_true]
    have:=Ef (N:=N) by_ (done.length:Int) (bS N r s f by_ n) f (okB s.Items (pos r.Pats) t.Ids).1 hby (o9 (neg r.Pats) f (okB s.Items (pos r.Pats) t.Ids).1) (by simp [o9]; omega) done rfl t.Ids ts (neg r.Pats) N [] [] t.Hits (by omega) rfl rfl h2 h3
    simp only [List.nil_append,List.length_nil,Int.natCast_zero] at this
    have h5:cK N by_ (done.length:Int) (bS N r s f by_ n) ((okB s.Items (pos r.Pats) t.Ids).1,true) (o9 (neg r.Pats) f (okB s.Items (pos r.Pats) t.Ids).1) N (done++t :: ts) 0=_:=this
    rw [h5,wr1 done.length (by omega)]
    exact next _
 have:=lp toks N [] (by omega) (by simpa using hl) (fun t h=>h)
 simpa using this
def n8 (xs:List ao) (ps:List aq) (row ids:List Int):List aa:=ids.flatMap (j0 xs ps row)
def uz (xs:List ao) (ps:List aq) (id:Int) (k:Nat) (B F:List aa) (A:List Int):List aa:=
 (if k=0 then j0 xs ps [] id else B.flatMap fun t=>j0 xs ps t.Ids id)++F.flatMap fun t=>n8 xs ps t.Ids A
def ub (xs:List ao) (ps ns:List aq) (k:Nat) (t:aa):aa:=if k+1=ps.length then ⟨t.Ids,fb xs ns (okB xs ps t.Ids).1⟩ else t
theorem ud {xs:List ao} {ps ns:List aq} {row:List Int} {id:Int} {k:Nat} (h:row.length=k):(j0 xs ps row id).map (ub xs ps ns k)=mA xs ps ns row id:=by
 subst h
 unfold j0 mA
 by_cases hok:(okB xs ps (row++[id])).2=true
 ·rw [if_pos hok,if_pos hok,List.map_cons,List.map_nil]
  unfold ub
  by_cases hk:row.length+1=ps.length
  ·rw [if_pos hk,if_pos hk]
  ·rw [if_neg hk,if_neg hk]
 ·rw [if_neg hok,if_neg hok]; rfl
theorem EO {xs:List ao} {ps ns:List aq} {row:List Int} {k:Nat} (h:row.length=k) (ids:List Int):(n8 xs ps row ids).map (ub xs ps ns k)=eB xs ps ns row ids:=by
 unfold n8 eB
 rw [List.map_flatMap]
 congr 1
 funext v
 exact ud h
theorem jV {α β:Type} {f g:α→List β}:∀ {l:List α},(∀ x∈l,f x=g x)→l.flatMap f=l.flatMap g
 | [],_=>rfl
 | x :: t,h=>by rw [List.flatMap_cons,List.flatMap_cons,h x (by simp),jV fun y hy=>h y (by simp [hy])]
theorem En {xs:List ao} {ps ns:List aq} {id:Int} {k:Nat} {B F:List aa} {A:List Int} (h0:k=0→F=[]) (hB:∀ t∈B,t.Ids.length=k) (hF:∀ t∈F,t.Ids.length=k):(uz xs ps id k B F A).map (ub xs ps ns k)=gf xs ps ns id k B F A:=by
 unfold uz gf
 rw [List.map_append]
 by_cases hk:k=0
 ·rw [if_pos hk,if_pos hk,h0 hk,ud (by simp [hk])]
  simp [eB]
 ·rw [if_neg hk,if_neg hk,List.map_flatMap,List.map_flatMap]
  congr 1
  ·refine jV fun t ht=>?_
   rw [ud (hB t ht)]; simp [eB]
  ·exact jV fun t ht=>EO (hF t ht) A
theorem sy (xs:List ao) (ps:List aq) (row:List Int) (id:Int):(j0 xs ps row id).length≤1:=by unfold j0; split <;> simp
theorem zU (xs:List ao) (ps:List aq) (row:List Int):∀ (ids:List Int),(n8 xs ps row ids).length≤ids.length
 | []=>by simp [n8]
 | v :: ids=>by
  have h1:=zU xs ps row ids
  have h2:=sy xs ps row v
  unfold n8 at h1 ⊢
  rw [List.flatMap_cons,List.length_append,List.length_cons]; omega
theorem Fd {xs:List ao} {ps:List aq} {id:Int} {k:Nat} {B F:List aa} {A:List Int} (hB:∀ t∈B,t.Ids.length=k) (hF:∀ t∈F,t.Ids.length=k):∀ t∈uz xs ps id k B F A,t.Ids.length=k+1∧(okB xs ps t.Ids).2=true:=by
 have hj:∀ (row:List Int) (v:Int),row.length=k→∀ t∈j0 xs ps row v,t.Ids.length=k+1∧(okB xs ps t.Ids).2=true:=fun row v hr t ht=>by
  unfold j0 at ht
  split at ht
  ·simp only [List.mem_singleton] at ht; subst ht; exact ⟨by simp [hr],by assumption⟩
  ·cases ht
 intro t ht
 unfold uz at ht
 rcases List.mem_append.1 ht with h | h
 ·split at h
  ·rename_i hk; exact hj [] id (by simp [hk]) t h
  ·obtain ⟨u,hu,h⟩:=List.mem_flatMap.1 h
   exact hj _ _ (hB u hu) t h
 ·obtain ⟨u,hu,h⟩:=List.mem_flatMap.1 h
  unfold n8 at h
  obtain ⟨v,_,h⟩:=List.mem_flatMap.1 h
  exact hj _ _ (hF u hu) t h
theorem Hi {N:Nat} (hN:1099000000000≤N) (r:ac) (s:ae) (hz:SzS r s) (F:List aa) (x12:aR) (j:Nat) (K:List aa→Int→Option aK) (t:aa) (ht:idx F (j:Int)=some t) (hj:j≤4294967296) (hr:t.Ids.length+1≤ai r.Pats) (hA:x12.L.length≤4294967296) (u0:List aa) (hl:u0.length+x12.L.length≤4294967296) :
  eh N r s F x12 (j:Int) K N u0 0=K (u0++n8 s.Items (pos r.Pats) t.Ids x12.L) ((j+1:Nat):Int):=by
 refine lp' hN x12.L hA (fun n (u:List aa) i=>eh N r s F x12 (j:Int) K n u i) (fun w u=>K (u++n8 s.Items (pos r.Pats) t.Ids w) ((j+1:Nat):Int)) (fun u w=>u.length+w.length≤4294967296) u0 hl (fun n u i v w g1 g2 g3 g4 g5 g6 gI gh=>?_) (fun n u i g1 g2 gI=>?_)
 ·simp only [List.length_cons] at gI
  have h1:=sy s.Items (pos r.Pats) t.Ids v
  simp only [eh,g5,if_true,ht,g4,Option.bind_some,Df hN r s hz u t.Ids v hr (by omega),g6]
  rw [gh _ (by rw [List.length_append]; omega)]
  simp [n8]
 ·simp only [eh,g2,Bool.false_eq_true,if_false,wr1 j (by omega)]; simp [n8]
theorem H4 {N:Nat} (hN:1099000000000≤N) (r:ac) (s:ae) (hz:SzS r s) (x1:aG) (s1:List ab) (F:List aa) (k:Int) (K:List ab→List aa→Int→Option aK) (x12:aR) (hF:∀ t∈F,t.Ids.length+1≤ai r.Pats) (hFl:F.length≤4294967296) (hA:x12.L.length≤4294967296) (u0:List aa) (hl:u0.length+F.length*x12.L.length≤4294967296) :
  d9 N r s x1 s1 F k K x12 N u0 0=bq N r s x1 s1 k K N (u0++F.flatMap fun t=>n8 s.Items (pos r.Pats) t.Ids x12.L) 0:=by
 refine lp' hN F hFl (fun n (u:List aa) i=>d9 N r s x1 s1 F k K x12 n u i) (fun w u=>bq N r s x1 s1 k K N (u++w.flatMap fun t=>n8 s.Items (pos r.Pats) t.Ids x12.L) 0) (fun u w=>u.length+w.length*x12.L.length≤4294967296) u0 hl (fun n u i v w g1 g2 g3 g4 g5 g6 gI gh=>?_) (fun n u i g1 g2 gI=>?_)
 ·rw [List.length_cons,Nat.succ_mul] at gI
  have h1:=zU s.Items (pos r.Pats) v.Ids x12.L
  simp only [d9,g5,if_true]
  rw [Hi hN r s hz F x12 i _ v g4 (by omega) (hF v g2) hA u (by omega),gh _ (by rw [List.length_append]; omega),List.flatMap_cons,List.append_assoc]
 ·simp only [d9,g2,Bool.false_eq_true,if_false]; simp
theorem H1 {N:Nat} (hN:1099000000000≤N) (r:ac) (s:ae) (hz:SzS r s) (x1:aG) (done:List ab) (L:ab) (Ls:List ab) (K:List ab→List aa→Int→Option aK) (hx:x1.Levels.length=(pos r.Pats).length) (hk:done.length+1≤(pos r.Pats).length) (hpp:(pos r.Pats).length=ai r.Pats) (M:List aa)
  (hM:∀ t∈M,t.Ids.length=done.length+1∧(okB s.Items (pos r.Pats) t.Ids).2=true) (hl:L.Toks.length+M.length≤4294967296) :
  bq N r s x1 (done++L :: Ls) (done.length:Int) K N M 0=K (done++⟨L.Toks++M.map (ub s.Items (pos r.Pats) (neg r.Pats) done.length)⟩ :: Ls) (M.map (ub s.Items (pos r.Pats) (neg r.Pats) done.length)) ((done.length+1:Nat):Int):=by
 have hpl:=hz.pl
 have hpc:=fJ r.Pats
 have ew:IntKind.i64.wrap ((x1.Levels.length:Int) - 1)=((x1.Levels.length - 1:Nat):Int):=by
  rw [show ((x1.Levels.length:Int) - 1)=((x1.Levels.length - 1:Nat):Int) by omega]
  exact wr (by omega) (by omega)
 have fin:∀ (n:Nat) (Z:List aa) (i:Int),Z.length=M.length→((if decide (i < (Z.length:Int)) then some (decide ((done.length:Int)=IntKind.i64.wrap ((x1.Levels.length:Int) - 1))) else some false)=some false) →
   bq N r s x1 (done++L :: Ls) (done.length:Int) K (n+1) Z i=K (done++⟨L.Toks++Z⟩ :: Ls) Z ((done.length+1:Nat):Int):=by
  intro n Z i hZ hb
  have e6:(done++L :: Ls).set ((done.length:Int)).toNat (⟨L.Toks++Z⟩:ab)=done++⟨L.Toks++Z⟩ :: Ls:=by rw [Int.toNat_natCast,lK,List.append_assoc]; rfl
  simp only [bq,hb,Option.bind_some,Bool.false_eq_true,if_false,dR,bR (show L.Toks.length+Z.length≤4294967296 by omega),e6,wr1 done.length (by omega)]
 by_cases hlast:done.length+1=(pos r.Pats).length
 ·have c2:decide ((done.length:Int)=IntKind.i64.wrap ((x1.Levels.length:Int) - 1))=true:=by rw [ew]; exact decide_eq_true (by omega)
  have lp:∀ (Z:List aa) (n:Nat) (D:List aa),Z.length < n→D.length+Z.length=M.length→(∀ t∈Z,t∈M) →
    bq N r s x1 (done++L :: Ls) (done.length:Int) K n (D++Z) (D.length:Int)=K (done++⟨L.Toks++(D++Z.map (ub s.Items (pos r.Pats) (neg r.Pats) done.length))⟩ :: Ls) (D++Z.map (ub s.Items (pos r.Pats) (neg r.Pats) done.length)) ((done.length+1:Nat):Int):=by
   intro Z
   induction Z with
   | nil=>
    intro n D hn hD hm
    obtain ⟨n,rfl⟩:∃ m,n=m+1:=⟨n - 1,by simp at hn; omega⟩
    have c1:decide ((D.length:Int) < ((D++[]).length:Int))=false:=decide_eq_false (by simp)
    rw [fin n (D++[]) (D.length:Int) (by simpa using hD) (by rw [c1]; rfl)]
    simp
   | cons t Z ih=>
    intro n D hn hD hm
    obtain ⟨n,rfl⟩:∃ m,n=m+1:=⟨n - 1,by omega⟩
    simp only [List.length_cons] at hn hD
    have c1:decide ((D.length:Int) < ((D++t :: Z).length:Int))=true:=decide_eq_true (by simp; omega)
    obtain ⟨h1,h2⟩:=hM t (hm t (by simp))
    have e7:ub s.Items (pos r.Pats) (neg r.Pats) done.length t=⟨t.Ids,fb s.Items (neg r.Pats) (okB s.Items (pos r.Pats) t.Ids).1⟩:=by unfold ub; rw [if_pos hlast]
    simp only [bq,c1,if_true,c2,Option.bind_some,dR,Gz hN r s hz t (by omega) h2,Int.toNat_natCast,lK,wr1 D.length (by omega)]
    have:=ih n (D++[⟨t.Ids,fb s.Items (neg r.Pats) (okB s.Items (pos r.Pats) t.Ids).1⟩]) (by omega) (by simp; omega) (fun u hu=>hm u (by simp [hu]))
    simp only [List.length_append,List.length_cons,List.length_nil,Nat.zero_add] at this
    rw [this,List.map_cons,e7]
    simp only [List.append_assoc,List.cons_append,List.nil_append]
  have:=lp M N [] (by omega) (by simp) (fun t h=>h)
  simpa using this
 ·have c2:decide ((done.length:Int)=IntKind.i64.wrap ((x1.Levels.length:Int) - 1))=false:=by rw [ew]; exact decide_eq_false (by omega)
  have e7:M.map (ub s.Items (pos r.Pats) (neg r.Pats) done.length)=M:=by
   rw [show ub s.Items (pos r.Pats) (neg r.Pats) done.length=id from by funext t; unfold ub; rw [if_neg hlast]; rfl,List.map_id]
  obtain ⟨m,rfl⟩:∃ m,N=m+1:=⟨N - 1,by omega⟩
  rw [e7]
  have:=fin m M 0 rfl (by rw [c2]; split <;> rfl)
  exact this
theorem E3 {N:Nat} (hN:1099000000000≤N) (r:ac) (s:ae) (hz:SzS r s) (c:aD) (m:aK) (id:Int) (thr:List Bool) (x1:aG) (done:List ab) (L:ab) (Ls:List ab) (K:List ab→List aa→Int→Option aK) (k:Nat) (hk:done.length=k) (B F:List aa) (a:Int) (A:aR) (b:Bool)
  (hp1:idx c.Pos (k:Int)=some a) (hA:idx m.Alphas a=some A) (hb:idx thr a=some b) (hbf:b=false→∀ row:List Int,row.length=k→j0 s.Items (pos r.Pats) row id=[])
  (hd:k≠0→∃ D,done=D++[⟨B++F⟩]) (h0:k=0→B=[]) (hkp:k+1≤ai r.Pats) (hB:∀ t∈B,t.Ids.length=k) (hF:∀ t∈F,t.Ids.length=k) (hAl:A.L.length≤4294967296) (hFl:F.length≤4294967296) (u0:List aa) (hl:u0.length+B.length+F.length*A.L.length≤4294967296) :
  cJ N r c m s id thr x1 (done++L :: Ls) F (k:Int) K (B.length:Int) N u0 0=bq N r s x1 (done++L :: Ls) (k:Int) K N (u0++(B.flatMap fun t=>j0 s.Items (pos r.Pats) t.Ids id)++F.flatMap fun t=>n8 s.Items (pos r.Pats) t.Ids A.L) 0:=by
 have hpl:=hz.pl
 have hpc:=fJ r.Pats
 have tail:∀ (n:Nat) (u:List aa) (i:Int),((if decide (i < (B.length:Int)) then ((idx c.Pos (k:Int)).bind fun x6=>((idx thr x6).bind fun x7=>some x7)) else some false)=some false)→u.length+F.length*A.L.length≤4294967296 →
   cJ N r c m s id thr x1 (done++L :: Ls) F (k:Int) K (B.length:Int) (n+1) u i=bq N r s x1 (done++L :: Ls) (k:Int) K N (u++F.flatMap fun t=>n8 s.Items (pos r.Pats) t.Ids A.L) 0:=by
  intro n u i hc hu
  unfold cJ
  rw [hc]
  simp only [Option.bind_some,Bool.false_eq_true,if_false,hp1,hA]
  exact H4 hN r s hz x1 _ F (k:Int) K A (fun t ht=>by rw [hF t ht]; exact hkp) hFl hAl u hu
 cases b with
 | false=>
  have e1:(B.flatMap fun t=>j0 s.Items (pos r.Pats) t.Ids id)=[]:=by
   rw [jV (g:=fun _=>[]) fun t ht=>hbf rfl _ (hB t ht)]; simp
  obtain ⟨n,rfl⟩:∃ n,N=n+1:=⟨N - 1,by omega⟩
  rw [e1,List.append_nil]
  exact tail n u0 0 (by simp only [hp1,hb,Option.bind_some]; split <;> rfl) (by omega)
 | true=>
  have lp:∀ (Z:List aa) (n:Nat) (D:List aa) (u:List aa),Z.length < n→B=D++Z→u.length+Z.length+F.length*A.L.length≤4294967296 →
    cJ N r c m s id thr x1 (done++L :: Ls) F (k:Int) K (B.length:Int) n u (D.length:Int)=bq N r s x1 (done++L :: Ls) (k:Int) K N (u++(Z.flatMap fun t=>j0 s.Items (pos r.Pats) t.Ids id)++F.flatMap fun t=>n8 s.Items (pos r.Pats) t.Ids A.L) 0:=by
   intro Z
   induction Z with
   | nil=>
    intro n D u hn hD hu
    obtain ⟨n,rfl⟩:∃ m,n=m+1:=⟨n - 1,by simp at hn; omega⟩
    have c1:decide ((D.length:Int) < (B.length:Int))=false:=decide_eq_false (by rw [hD]; simp)
    rw [tail n u _ (by rw [c1]; rfl) (by simpa using hu)]
    simp
   | cons t Z ih=>
    intro n D u hn hD hu
    obtain ⟨n,rfl⟩:∃ m,n=m+1:=⟨n - 1,by omega⟩
    simp only [List.length_cons] at hn hu
    have hBl:B.length=D.length+(Z.length+1):=by rw [hD]; simp
    have c1:decide ((D.length:Int) < (B.length:Int))=true:=decide_eq_true (by omega)
    have hk0:k≠0:=fun e=>by rw [h0 e] at hBl; simp at hBl
    obtain ⟨D',hD'⟩:=hd hk0
    have ew:IntKind.i64.wrap ((k:Int) - 1)=((k - 1:Nat):Int):=by
     rw [show ((k:Int) - 1)=((k - 1:Nat):Int) by omega]
     exact wr (by omega) (by omega)
    have e1:idx (done++L :: Ls) ((k - 1:Nat):Int)=some ⟨B++F⟩:=by
     rw [hD',List.append_assoc,← hk,hD',jZ]
     simp
    have e2:idx (B++F) (D.length:Int)=some t:=by rw [hD,List.append_assoc]; exact dR _ _ _
    have h1:=sy s.Items (pos r.Pats) t.Ids id
    have htk:=hB t (by rw [hD]; simp)
    simp only [cJ,c1,if_true,hp1,hb,Option.bind_some,ew,e1,e2,Df hN r s hz u t.Ids id (by omega) (by omega),wr1 D.length (by omega)]
    have:=ih n (D++[t]) (u++j0 s.Items (pos r.Pats) t.Ids id) (by omega) (by rw [hD]; simp) (by rw [List.length_append]; omega)
    simp only [List.length_append,List.length_cons,List.length_nil,Nat.zero_add] at this
    rw [this,List.flatMap_cons]
    simp only [List.append_assoc]
  exact lp B N [] u0 (by omega) rfl hl
theorem DN {N:Nat} (hN:1099000000000≤N) (r:ac) (s:ae) (hz:SzS r s) (c:aD) (m:aK) (at_ id:Int) (thr:List Bool) (x1:aG) (hx:x1.Levels.length=(pos r.Pats).length) (hx1:1≤x1.Levels.length) (hpp:(pos r.Pats).length=ai r.Pats) (A:Nat→List Int) (hAl:∀ k,(A k).length≤4294967296)
  (hA:∀ k,k < x1.Levels.length→∃ a i b,idx c.Pos (k:Int)=some a∧idx m.Alphas a=some i∧i.L=A k∧idx thr a=some b∧(b=false→∀ row:List Int,row.length=k→j0 s.Items (pos r.Pats) row id=[])) :
  ∀ (rest:List ab) (n:Nat) (done:List ab) (B F:List aa),rest.length < n→done.length+rest.length=x1.Levels.length→(done.length≠0→∃ D,done=D++[⟨B++F⟩])→(done.length=0→B=[]∧F=[])→(∀ t∈B,t.Ids.length=done.length)→(∀ t∈F,t.Ids.length=done.length)→(∀ i L,rest[i]?=some L→∀ t∈L.Toks,t.Ids.length=done.length+1+i) →
   F.length≤4294967296→BK (fun k=>(A k).length) done.length (rest.map (·.Toks.length)) B.length F.length →
   aU N r c m at_ s id thr x1 n (done++rest) F (done.length:Int)=some ⟨m.Alphas,m.Rules.set at_.toNat ⟨done++jR s.Items (pos r.Pats) (neg r.Pats) id A done.length rest B F⟩⟩
 | [],n,done,B,F,hn,hd,hD,h0,hB,hF,hL,hFl,hf=>by
  obtain ⟨n,rfl⟩:∃ m,n=m+1:=⟨n - 1,by simp at hn; omega⟩
  simp only [List.length_nil,Nat.add_zero] at hd
  have hpl:=hz.pl
  have hpc:=fJ r.Pats
  have ew:IntKind.i64.wrap ((x1.Levels.length:Int) - 1)=((x1.Levels.length - 1:Nat):Int):=by
   rw [show ((x1.Levels.length:Int) - 1)=((x1.Levels.length - 1:Nat):Int) by omega]
   exact wr (by omega) (by omega)
  have c1:decide ((done.length:Int)≤IntKind.i64.wrap ((x1.Levels.length:Int) - 1))=false:=by rw [ew]; exact decide_eq_false (by omega)
  simp only [aU,c1,Bool.false_eq_true,if_false,jR]
 | L :: Ls,n,done,B,F,hn,hd,hD,h0,hB,hF,hL,hFl,hf=>by
  obtain ⟨n,rfl⟩:∃ m,n=m+1:=⟨n - 1,by omega⟩
  simp only [List.length_cons] at hn hd
  obtain ⟨hf1,hf2⟩:=hf
  simp only at hf1 hf2
  have hpl:=hz.pl
  have hpc:=fJ r.Pats
  have ew:IntKind.i64.wrap ((x1.Levels.length:Int) - 1)=((x1.Levels.length - 1:Nat):Int):=by
   rw [show ((x1.Levels.length:Int) - 1)=((x1.Levels.length - 1:Nat):Int) by omega]
   exact wr (by omega) (by omega)
  have c1:decide ((done.length:Int)≤IntKind.i64.wrap ((x1.Levels.length:Int) - 1))=true:=by rw [ew]; exact decide_eq_true (by omega)
  obtain ⟨a,i,b,ha,hi,hiA,hb,hbf⟩:=hA done.length (by omega)
  have hml:=tV s.Items (pos r.Pats) (neg r.Pats) id done.length B F (A done.length)
  have hmi:=A5 (xs:=s.Items) (ps:=pos r.Pats) (ns:=neg r.Pats) (id:=id) (A:=A done.length) hB hF
  have hfin:=En (xs:=s.Items) (ps:=pos r.Pats) (ns:=neg r.Pats) (id:=id) (A:=A done.length) (fun e=>(h0 e).2) hB hF
  have hsok:=Fd (xs:=s.Items) (ps:=pos r.Pats) (id:=id) (A:=A done.length) hB hF
  have hsl:(uz s.Items (pos r.Pats) id done.length B F (A done.length)).length=(gf s.Items (pos r.Pats) (neg r.Pats) id done.length B F (A done.length)).length:=by rw [← hfin,List.length_map]
  have key:∀ M,M=uz s.Items (pos r.Pats) id done.length B F (A done.length)→bq N r s x1 (done++L :: Ls) (done.length:Int) (aU N r c m at_ s id thr x1 n) N M 0=some ⟨m.Alphas,m.Rules.set at_.toNat ⟨done++jR s.Items (pos r.Pats) (neg r.Pats) id A done.length (L :: Ls) B F⟩⟩:=by
   intro M hM
   subst hM
   rw [H1 hN r s hz x1 done L Ls _ hx (by omega) hpp _ hsok (by omega),hfin]
   have:=DN hN r s hz c m at_ id thr x1 hx hx1 hpp A hAl hA Ls n (done++[⟨L.Toks++gf s.Items (pos r.Pats) (neg r.Pats) id done.length B F (A done.length)⟩]) L.Toks (gf s.Items (pos r.Pats) (neg r.Pats) id done.length B F (A done.length)) (by omega) (by simp; omega)
    (fun _=>⟨done,rfl⟩) (fun e=>by simp at e) (fun t ht=>by have:=hL 0 L rfl t ht; simpa using this) (fun t ht=>by simpa using hmi t ht) (fun j M hj t ht=>by have:=hL (j+1) M (by simpa using hj) t ht; simp only [List.length_append,List.length_cons,List.length_nil]; omega) (by omega)
    (by simp only [List.length_append,List.length_cons,List.length_nil]; exact uc hf2 (Nat.le_refl _) hml)
   simp only [List.length_append,List.length_cons,List.length_nil,Nat.zero_add,List.append_assoc,List.cons_append,List.nil_append] at this
   exact this
  simp only [aU,c1,if_true]
  by_cases hk0:done.length=0
  ·obtain ⟨rfl,rfl⟩:=h0 hk0
   have c2:decide ((done.length:Int)=0)=true:=decide_eq_true (by omega)
   have c3:decide ((0:Int) < (done.length:Int))=false:=decide_eq_false (by omega)
   have ha0:idx c.Pos 0=some a:=by rw [← ha,hk0]; rfl
   have h1:=sy s.Items (pos r.Pats) [] id
   have fin:∀ u0,u0=j0 s.Items (pos r.Pats) [] id→f8 N r c m s id thr x1 (done++L :: Ls) [] (done.length:Int) (aU N r c m at_ s id thr x1 n) u0=some ⟨m.Alphas,m.Rules.set at_.toNat ⟨done++jR s.Items (pos r.Pats) (neg r.Pats) id A done.length (L :: Ls) [] []⟩⟩:=by
    intro u0 hu
    unfold f8 fW
    rw [c3]
    simp only [Bool.false_eq_true,if_false]
    have hul:u0.length≤1:=by rw [hu]; exact h1
    have:=E3 hN r s hz c m id thr x1 done L Ls (aU N r c m at_ s id thr x1 n) done.length rfl [] [] a i b ha hi hb hbf (fun e=>absurd hk0 e) (fun _=>rfl) (by omega) (by simp) (by simp) (by rw [hiA]; exact hAl _) (by simp) u0 (by simp; omega)
    simp only [List.length_nil,Int.natCast_zero] at this
    have h5:cJ N r c m s id thr x1 (done++L :: Ls) [] (done.length:Int) (aU N r c m at_ s id thr x1 n) 0 N u0 0=_:=this
    rw [h5]
    exact key _ (by unfold uz; rw [if_pos hk0,hu]; simp)
   simp only [c2,if_true,ha0,hb,Option.bind_some]
   cases b with
   | true=>
    simp only [if_true,Df hN r s hz [] [] id (by simp; omega) (by simp),Option.bind_some]
    exact fin _ (by simp)
   | false=>
    simp only [Bool.false_eq_true,if_false]
    exact fin _ (hbf rfl [] (by simp [hk0])).symm
  ·have c2:decide ((done.length:Int)=0)=false:=decide_eq_false (by omega)
   have c3:decide ((0:Int) < (done.length:Int))=true:=decide_eq_true (by omega)
   obtain ⟨D',hD'⟩:=hD hk0
   have ew2:IntKind.i64.wrap ((done.length:Int) - 1)=((done.length - 1:Nat):Int):=by
    rw [show ((done.length:Int) - 1)=((done.length - 1:Nat):Int) by omega]
    exact wr (by omega) (by omega)
   have e1:idx (done++L :: Ls) ((done.length - 1:Nat):Int)=some ⟨B++F⟩:=by
    rw [hD',List.append_assoc,jZ]
    simp
   rw [if_neg hk0] at hf1
   have hBl:B.length≤4294967296:=by omega
   have e2:IntKind.i64.wrap (((B++F).length:Int) - (F.length:Int))=(B.length:Int):=by
    rw [List.length_append,show (((B.length+F.length:Nat):Int) - (F.length:Int))=(B.length:Int) by omega]
    exact wr (by omega) (by omega)
   simp only [c2,Bool.false_eq_true,if_false,Option.bind_some,f8,c3,if_true,ew2,e1,e2,fW]
   rw [E3 hN r s hz c m id thr x1 done L Ls _ done.length rfl B F a i b ha hi hb hbf (fun _=>⟨D',hD'⟩) (fun e=>absurd e hk0) (by omega) hB hF (by rw [hiA]; exact hAl _) hFl [] (by rw [hiA]; simp; omega)]
   exact key _ (by unfold uz; rw [if_neg hk0,hiA]; simp)
theorem zS {b0:List aC}:∀ (as:List bk) (vs:List aQ) (s:List aC) (pre:List aQ),(cV b0 as vs s).2=true→as.length=vs.length→iA (pre++vs) (ats pre.length as) (iJ as)=true
 | [],vs,s,pre,_,_=>rfl
 | a :: as,[],s,pre,_,hl=>by simp at hl
 | a :: as,v :: vs,s,pre,h,hl=>by
  have hl':as.length=vs.length:=by simpa using hl
  have next:∀ s',(cV b0 as vs s').2=true→iA (pre++v :: vs) (ats (pre.length+1) as) (iJ as)=true:=fun s' h'=>by
   have:=zS as vs s' (pre++[v]) h' hl'
   simpa using this
  unfold cV at h
  unfold ats iJ
  by_cases k2:a.K=2
  ·rw [if_pos k2] at h
   rw [if_pos k2,if_pos k2]
   by_cases he:bc a.V v=true
   ·rw [if_pos he] at h
    rw [jU,decide_eq_true_eq] at he
    unfold iA
    have e1:idx (pre++v :: vs) (pre.length:Int)=some a.V:=by
     rw [ah (show pre.length < (pre++v :: vs).length by simp),he]; simp
    rw [next s h,e1,decide_eq_true (show (0:Int)≤(pre.length:Int) by omega),decide_eq_true (show (pre.length:Int) < ((pre++v :: vs).length:Int) by simp; omega)]
    simp
   ·rw [if_neg he] at h; cases h
  ·rw [if_neg k2] at h
   rw [if_neg k2,if_neg k2]
   split at h
   ·split at h
    ·split at h
     ·exact next s h
     ·cases h
    ·exact next _ h
   ·exact next s h
theorem AP {p:aq} {f:aw} {b:List aC} (h:(bL p f b).2=true):eu (aJ p) f=true:=by
 unfold bL at h
 split at h
 ·rename_i hc
  have:=zS p.Args f.Fields b [] h hc.2
  have hk:seq f.Kind p.Kind=true:=by
   have:=hc.1
   rw [dD,decide_eq_true_eq] at this ⊢
   exact this.symm
  show ((seq f.Kind p.Kind && decide ((f.Fields.length:Int)=(p.Args.length:Int))) && iA f.Fields (ats 0 p.Args) (iJ p.Args))=true
  rw [hk,decide_eq_true (show (f.Fields.length:Int)=(p.Args.length:Int) by omega)]
  simpa using this
 ·cases h
theorem Gx {N:Nat} (hN:1099000000000≤N) (a:ak) (f:aw) (h:a.At.length≤1048576) (hf:f.Fields.length≤1048576):oJ N a f=some (eu a f):=by
 have hwr:IntKind.i64.wrap ((f.Fields.length:Int) - 1)=(f.Fields.length:Int) - 1:=wr (by omega) (by omega)
 have lp:∀ (n i:Nat),i≤a.At.length→a.At.length - i < n→fQ N a f n i=some (iA f.Fields (a.At.drop i) (a.Consts.drop i)):=by
  intro n
  induction n with
  | zero=>intro i _ h; omega
  | succ n ih=>
   intro i hi hn
   simp only [fQ,in0,Option.bind_some,hwr]
   by_cases hlt:i < a.At.length
   ·have c1:decide ((i:Int) < (a.At.length:Int))=true:=decide_eq_true (by omega)
    rw [List.drop_eq_getElem_cons hlt]
    simp only [c1,if_true,ah hlt,Option.bind_some,wr1 i (by omega),ih (i+1) (by omega) (by omega)]
    by_cases hc:i < a.Consts.length
    ·have c2:decide ((a.Consts.length:Int)≤(i:Int))=false:=decide_eq_false (by omega)
     rw [List.drop_eq_getElem_cons hc,iA]
     by_cases h0:a.At[i] < 0
     ·simp [show ¬ a.Consts.length≤i by omega,show ¬ 0≤a.At[i] by omega]
     ·by_cases h1:(f.Fields.length:Int)≤a.At[i]
      ·simp [show ¬ a.Consts.length≤i by omega,show 0≤a.At[i] by omega,show ¬ a.At[i]≤(f.Fields.length:Int) - 1 by omega,show ¬ a.At[i] < (f.Fields.length:Int) by omega]
      ·obtain ⟨j,hj⟩:∃ j:Nat,a.At[i]=(j:Int):=⟨a.At[i].toNat,by omega⟩
       have hjl:j < f.Fields.length:=by omega
       rw [hj]
       rw [hj] at h0 h1
       have hj1:(j:Int)≤(f.Fields.length:Int) - 1:=by omega
       have hj0:(0:Int)≤(j:Int):=by omega
       simp only [hj0,hj1,decide_true,Bool.and_self,Bool.not_true,c2,decide_false,Bool.false_eq_true,if_false,Option.bind_some,ah hjl,ah hc,jU,Option.some.injEq]
       by_cases he:f.Fields[j]=a.Consts[i] <;> simp [he,hjl]
    ·have c2:decide ((a.Consts.length:Int)≤(i:Int))=true:=decide_eq_true (by omega)
     rw [List.drop_of_length_le (show a.Consts.length≤i by omega),iA]
     simp [show a.Consts.length≤i by omega]
   ·have c1:decide ((i:Int) < (a.At.length:Int))=false:=decide_eq_false (by omega)
    rw [List.drop_of_length_le (show a.At.length≤i by omega)]
    simp only [c1,Bool.false_eq_true,if_false,iA]
 have l0:=lp N 0 (by omega) (by omega)
 rw [List.drop_zero,List.drop_zero,show ((0:Nat):Int)=0 from rfl] at l0
 unfold oJ eu
 rw [l0]
 have hk:seq a.Kind f.Kind=seq f.Kind a.Kind:=by rw [dD,dD]; simp [eq_comm]
 rw [hk]
 have hd:decide (a.N=(f.Fields.length:Int))=decide ((f.Fields.length:Int)=a.N):=by rw [decide_eq_decide]; exact eq_comm
 rw [hd]
 cases seq f.Kind a.Kind <;> cases decide ((f.Fields.length:Int)=a.N) <;> simp
theorem rW {xs:List ao} {id:Int}:∀ (ps:List aq) (row:List Int) (l:List aC),(cE xs (ps.take (row.length+1)) (row++[id]) l).2=true→∃ p,ps[row.length]?=some p∧eu (aJ p) (aI xs id).1=true
 | [],row,l,h=>by
  cases row <;> simp [cE] at h
 | p :: ps,[],l,h=>by
  simp only [List.length_nil,Nat.zero_add,List.take_succ_cons,List.nil_append,cE] at h
  split at h
  ·rename_i hc
   exact ⟨p,rfl,AP hc.2⟩
  ·cases h
 | p :: ps,v :: row,l,h=>by
  simp only [List.length_cons,List.take_succ_cons,List.cons_append,cE] at h
  split at h
  ·have:=rW ps row _ h
   simpa using this
  ·cases h
theorem ES {xs:List ao} {ps:List aq} {row:List Int} {id:Int} {p:aq} (hp:ps[row.length]?=some p) (h:eu (aJ p) (aI xs id).1=false):j0 xs ps row id=[]:=by
 unfold j0
 rw [if_neg]
 intro hk
 unfold okB at hk
 rw [List.length_append,List.length_cons,List.length_nil,Nat.zero_add] at hk
 obtain ⟨q,hq,h2⟩:=rW ps row [] hk
 rw [hp] at hq
 cases hq
 rw [h] at h2
 cases h2
theorem IY {N:Nat} (hN:1099000000000≤N) (r:ac) (c:aD) (m:aK) (at_:Int) (s:ae) (id:Int) (thr:List Bool) (row:aG) (hz:SzS r s) (hpp:(pos r.Pats).length=ai r.Pats) (hrow:idx m.Rules at_=some row) (ok:CE m.Alphas r c row)
  (hir:∀ L,row.Levels[row.Levels.length - 1]?=some L→∀ t∈L.Toks,∀ x∈t.Hits,InR x)
  (hthr:∀ k,k < row.Levels.length→∃ a i b,idx c.Pos (k:Int)=some a∧idx m.Alphas a=some i∧idx thr a=some b∧(b=false→∀ row:List Int,row.length=k→j0 s.Items (pos r.Pats) row id=[])) :
  mD N r c m at_ s id (aI s.Items id).1 thr=some ⟨m.Alphas,m.Rules.set at_.toNat ⟨(oZ s.Items m.Alphas (aI s.Items id).1 id r c row).Levels⟩⟩:=by
 have hne:=ok.ne
 have hll:=ok.ll
 have hpl:=hz.pl
 have hpc:=fJ r.Pats
 have ew:IntKind.i64.wrap ((row.Levels.length:Int) - 1)=((row.Levels.length - 1:Nat):Int):=by
  rw [show ((row.Levels.length:Int) - 1)=((row.Levels.length - 1:Nat):Int) by omega]
  exact wr (by omega) (by omega)
 have hlt:row.Levels.length - 1 < row.Levels.length:=by omega
 have hL:row.Levels[row.Levels.length - 1]?=some row.Levels[row.Levels.length - 1]:=List.getElem?_eq_getElem hlt
 have hlen:(row.Levels[row.Levels.length - 1]).Toks.length≤4294967296:=AK ok.fit _ (List.mem_map.2 ⟨_,List.getElem_mem hlt,rfl⟩)
 have hset:=C9 (M:=iN s.Items (pos r.Pats) (neg r.Pats) (aI s.Items id).1 1 (row.Levels[row.Levels.length - 1]).Toks) hL (uy _)
 unfold mD
 rw [hrow,Option.bind_some,ew,ah hlt,Option.bind_some,JD hN r s hz _ 1 (Or.inl rfl) _ hlen (fun t ht=>⟨by have:=ok.ids _ _ hL t ht; omega,ok.hit _ hL t ht,hir _ hL t ht⟩),Option.bind_some,Int.toNat_natCast]
 have h1:=DN hN r s hz c m at_ id thr row hll hne hpp (ta m.Alphas c) ok.al
  (fun k hk=>by
   obtain ⟨a,i,b,h1,h2,h3,h4⟩:=hthr k hk
   exact ⟨a,i,b,h1,h2,tX h1 h2,h3,h4⟩)
  (row.Levels.set (row.Levels.length - 1) ⟨iN s.Items (pos r.Pats) (neg r.Pats) (aI s.Items id).1 1 (row.Levels[row.Levels.length - 1]).Toks⟩) N [] [] [] (by rw [List.length_set]; omega) (by simp) (fun e=>absurd rfl e) (fun _=>⟨rfl,rfl⟩) (by simp) (by simp)
  (fun i L hi t ht=>by
   rw [List.length_nil,Nat.zero_add,Nat.add_comm]
   rw [List.getElem?_set] at hi
   split at hi
   ·rename_i e; subst e
    ·simp only [Option.some.injEq] at hi
     subst hi
     have h1:=u6 (xs:=s.Items) (ps:=pos r.Pats) (ns:=neg r.Pats) (f:=(aI s.Items id).1) (b:=1) (row.Levels[row.Levels.length - 1]).Toks
     have h2:t.Ids∈(row.Levels[row.Levels.length - 1]).Toks.map (·.Ids):=by rw [← h1]; exact List.mem_map.2 ⟨t,ht,rfl⟩
     obtain ⟨u,hu,e⟩:=List.mem_map.1 h2
     rw [← e]; exact ok.ids _ _ hL u hu
   ·exact ok.ids i L hi t ht)
  (by simp) (by rw [hset]; exact ok.fit)
 simp only [List.nil_append,List.length_nil,Int.natCast_zero] at h1
 have h2:aU N r c m at_ s id thr row N (row.Levels.set (row.Levels.length - 1) ⟨iN s.Items (pos r.Pats) (neg r.Pats) (aI s.Items id).1 1 (row.Levels[row.Levels.length - 1]).Toks⟩) [] 0=_:=h1
 rw [h2]
 unfold oZ fG
 rw [hL]
theorem DT {N:Nat} (hN:1099000000000≤N) (d:bi) (n:bB) (s:ae) (id:Int) (b:Bool) (as:List aR) (thr:List Bool) (hlr:d.Rules.length≤1048576) :
  ∀ (ws:List aG) (rs:List ac) (cs:List aD) (k:Nat) (dr:List ac) (dc:List aD) (dw:List aG),ws.length < k→d.Rules=dr++rs→n.Chains=dc++cs→dr.length=dw.length→dc.length=dw.length→rs.length=ws.length→cs.length=ws.length →
   (∀ (i:Nat) (r:ac) (c:aD) (w:aG),rs[i]?=some r→cs[i]?=some c→ws[i]?=some w→SzS r s∧(pos r.Pats).length=ai r.Pats∧CE as r c w∧(∀ L,w.Levels[w.Levels.length - 1]?=some L→∀ t∈L.Toks,∀ x∈t.Hits,InR x) ∧
    ∀ k,k < w.Levels.length→∃ a i b,idx c.Pos (k:Int)=some a∧idx as a=some i∧idx thr a=some b∧(b=false→∀ row:List Int,row.length=k→j0 s.Items (pos r.Pats) row id=[])) →
   eJ N d n s id ((aI s.Items id).1,b) as thr k (dw++ws) (dw.length:Int)=some ⟨as,dw++mJ (oZ s.Items as (aI s.Items id).1 id) rs cs ws⟩
 | [],rs,cs,k,dr,dc,dw,hk,h1,h2,h4,h5,h6,h7,h8=>by
  obtain ⟨k,rfl⟩:∃ j,k=j+1:=⟨k - 1,by simp at hk; omega⟩
  have hr0:rs=[]:=List.length_eq_zero_iff.1 h6
  subst hr0
  have c1:decide ((dw.length:Int) < (d.Rules.length:Int))=false:=decide_eq_false (by rw [h1,← h4]; simp)
  simp only [eJ,c1,Bool.false_eq_true,if_false,mJ]
 | w :: ws,[],cs,k,dr,dc,dw,hk,h1,h2,h4,h5,h6,h7,h8=>by simp at h6
 | w :: ws,r :: rs,[],k,dr,dc,dw,hk,h1,h2,h4,h5,h6,h7,h8=>by simp at h7
 | w :: ws,r :: rs,c :: cs,k,dr,dc,dw,hk,h1,h2,h4,h5,h6,h7,h8=>by
  obtain ⟨k,rfl⟩:∃ j,k=j+1:=⟨k - 1,by omega⟩
  simp only [List.length_cons] at hk h6 h7
  have hdl:d.Rules.length=dw.length+(rs.length+1):=by rw [h1,← h4]; simp
  have c1:decide ((dw.length:Int) < (d.Rules.length:Int))=true:=decide_eq_true (by omega)
  obtain ⟨q1,q2,q3,q4,q5⟩:=h8 0 r c w rfl rfl rfl
  have e1:idx d.Rules (dw.length:Int)=some r:=by rw [h1,← h4]; exact dR _ _ _
  have e2:idx n.Chains (dw.length:Int)=some c:=by rw [h2,← h5]; exact dR _ _ _
  simp only [eJ,c1,if_true,Option.bind_some,e1,e2]
  rw [IY hN r c ⟨as,dw++w :: ws⟩ (dw.length:Int) s id thr w q1 q2 (dR _ _ _) q3 q4 q5]
  simp only [Option.bind_some,Int.toNat_natCast,lK,wr1 dw.length (by omega)]
  have:=DT hN d n s id b as thr hlr ws rs cs k (dr++[r]) (dc++[c]) (dw++[⟨(oZ s.Items as (aI s.Items id).1 id r c w).Levels⟩]) (by omega) (by rw [h1]; simp) (by rw [h2]; simp) (by simp [h4]) (by simp [h5]) (by omega) (by omega)
   (fun i r' c' w' a1 a2 a3=>h8 (i+1) r' c' w' (by simpa using a1) (by simpa using a2) (by simpa using a3))
  simp only [List.length_append,List.length_cons,List.length_nil,Nat.zero_add] at this
  rw [this,List.append_assoc]
  rfl
theorem Ea {N:Nat} (hN:1099000000000≤N) (d:bi) (n:bB) (m:aK) (s:ae) (id:Int) (f:aw × Bool) (ha:∀ a∈n.Alphas,a.At.length≤1048576) (hl:n.Alphas.length≤1048576) (hf:f.1.Fields.length≤1048576) :
  ∀ (as:List ak) (k:Nat) (da:List ak) (di is:List aR),as.length < k→n.Alphas=da++as→di.length=da.length→is.length=as.length→(∀ i∈is,i.L.length+1≤4294967296) →
   dW N d n m s id f k (di++is) (da.map fun a=>eu a f.1) (da.length:Int)=eJ N d n s id f (di++bT f.1 id as is) (n.Alphas.map fun a=>eu a f.1) N m.Rules 0
 | [],k,da,di,is,hk,h1,h2,h3,h4=>by
  obtain ⟨k,rfl⟩:∃ j,k=j+1:=⟨k - 1,by simp at hk; omega⟩
  have c1:decide ((da.length:Int) < (n.Alphas.length:Int))=false:=decide_eq_false (by rw [h1]; simp)
  have e:n.Alphas=da:=by rw [h1]; simp
  simp only [dW,c1,Bool.false_eq_true,if_false,bT]
  rw [e]
 | a :: as,k,da,di,[],hk,h1,h2,h3,h4=>by simp at h3
 | a :: as,k,da,di,i :: is,hk,h1,h2,h3,h4=>by
  obtain ⟨k,rfl⟩:∃ j,k=j+1:=⟨k - 1,by omega⟩
  simp only [List.length_cons] at hk h3
  have hal:n.Alphas.length=da.length+(as.length+1):=by rw [h1]; simp
  have c1:decide ((da.length:Int) < (n.Alphas.length:Int))=true:=decide_eq_true (by omega)
  have e1:idx n.Alphas (da.length:Int)=some a:=by rw [h1]; exact dR _ _ _
  have e2:idx (di++i :: is) (da.length:Int)=some i:=by rw [← h2]; exact dR _ _ _
  have ham:a∈n.Alphas:=by rw [h1]; simp
  have hil:=h4 i (by simp)
  have ih:=fun y=>Ea hN d n m s id f ha hl hf as k (da++[a]) (di++[y]) is (by omega) (by rw [h1]; simp) (by simp [h2]) (by omega) (fun j hj=>h4 j (by simp [hj]))
  simp only [List.length_append,List.length_cons,List.length_nil,Nat.zero_add,List.append_assoc,List.cons_append,List.nil_append,List.map_append,List.map_cons,List.map_nil] at ih
  simp only [dW,c1,if_true,e1,Option.bind_some,Gx hN a f.1 (ha a ham) hf,wr1 da.length (by omega),bT,bR (show (da.map fun a=>eu a f.1).length+[eu a f.1].length≤4294967296 by simp; omega)]
  cases hp:eu a f.1 with
  | true=>
   rw [hp] at ih
   simp only [if_true,e2,Option.bind_some,bR (show i.L.length+[id].length≤4294967296 by simpa using hil)]
   have e3:(di++i :: is).set ((da.length:Int)).toNat (⟨i.L++[id]⟩:aR)=di++⟨i.L++[id]⟩ :: is:=by
    rw [Int.toNat_natCast,← h2,lK,List.append_assoc]; rfl
   rw [e3]
   exact ih _
  | false=>
   rw [hp] at ih
   simp only [Bool.false_eq_true,if_false]
   exact ih i
theorem ph {f:aw} {id:Int}:∀ (as:List ak) (is:List aR),(bT f id as is).length=is.length
 | [],is=>by simp [bT]
 | a :: as,[]=>by simp [bT]
 | a :: as,i :: is=>by simp [bT,ph as is]
structure G8 (d:bi) (n:bB) (m:aK) (s:ae) (id:Int):Prop where
 ok:HW d n m s id
 ats:Ats n.Alphas n.Chains d.Rules
 rows:∀ (i:Nat) (r:ac) (w:aG),d.Rules[i]?=some r→m.Rules[i]?=some w→SzS r s∧(pos r.Pats).length=ai r.Pats∧∀ L,w.Levels[w.Levels.length - 1]?=some L→∀ t∈L.Toks,∀ x∈t.Hits,InR x
theorem Kc {N:Nat} (hN:1099000000000≤N) (d:bi) (n:bB) (m:aK) (s:ae) (id:Int) (h:G8 d n m s id):nS N d n m s id=some (BF d n m s id):=by
 have hal:=h.ok.al
 have hrl:=h.ok.rl
 have hld:=h.ok.ld
 have hla:=h.ok.la
 unfold nS
 rw [C6 hN s id h.ok.sl h.ok.fl,Option.bind_some]
 have h1:=Ea hN d n m s id (aI s.Items id) h.ok.at_ h.ok.al (Dv h.ok.fl id) n.Alphas N [] [] m.Alphas (by omega) rfl rfl h.ok.la h.ok.il
 simp only [List.nil_append,List.length_nil,Int.natCast_zero,List.map_nil] at h1
 have h1':dW N d n m s id (aI s.Items id) N m.Alphas [] 0=_:=h1
 rw [h1']
 have h2:=DT hN d n s id (aI s.Items id).2 (bT (aI s.Items id).1 id n.Alphas m.Alphas) (n.Alphas.map fun a=>eu a (aI s.Items id).1) (by omega) m.Rules d.Rules n.Chains N [] [] [] (by omega) rfl rfl rfl rfl h.ok.ld h.ok.lc
  (fun i r c w g1 g2 g3=>by
   obtain ⟨q1,q2⟩:=h.ok.rows i r c w g1 g2 g3
   obtain ⟨q3,q4,q5⟩:=h.rows i r w g1 g3
   refine ⟨q3,q4,q2,q5,fun k hk=>?_⟩
   obtain ⟨hi,hr⟩:=List.getElem?_eq_some_iff.1 g1
   obtain ⟨hi',hc⟩:=List.getElem?_eq_some_iff.1 g2
   have hat:=(h.ats.get i hi' hi).1
   rw [hc,hr] at hat
   have hkp:k < (pos r.Pats).length:=by rw [← q2.ll]; exact hk
   have hkc:k < c.Pos.length:=by rw [hat.len]; exact hkp
   have e1:=hat.get k hkc hkp
   obtain ⟨a0,a1,e⟩:=a7 e1
   have hlt:c.Pos[k].toNat < (bT (aI s.Items id).1 id n.Alphas m.Alphas).length:=by
    rw [ph,hla]
    obtain ⟨q,_⟩:=List.getElem?_eq_some_iff.1 e
    exact q
   have ecp:c.Pos[k]=((c.Pos[k].toNat:Nat):Int):=by omega
   refine ⟨c.Pos[k],_,eu (aJ (pos r.Pats)[k]) (aI s.Items id).1,ah hkc,by rw [ecp]; exact ah hlt,?_,fun hb row hrow=>?_⟩
   ·have:(n.Alphas.map fun a=>eu a (aI s.Items id).1)[c.Pos[k].toNat]?=some (eu (aJ (pos r.Pats)[k]) (aI s.Items id).1):=by
     rw [List.getElem?_map,e]; rfl
    unfold idx
    rw [if_pos a0]
    exact this
   ·exact ES (by rw [hrow]; exact List.getElem?_eq_getElem hkp) hb)
 simp only [List.nil_append,List.length_nil,Int.natCast_zero] at h2
 exact h2
def qo (c:aD):aG:=⟨List.replicate c.Pos.length ⟨[]⟩⟩
def j5 (p:bB):aK:=⟨List.replicate p.Alphas.length ⟨[]⟩,p.Chains.map qo⟩
theorem Fe {N:Nat} (hN:1099000000000≤N) (p:bB) (ha:p.Alphas.length≤1048576) (hc:p.Chains.length≤1048576) (hp:∀ c∈p.Chains,c.Pos.length≤1048576):nU N p=some (j5 p):=by
 unfold nU j5
 rw [j8 _ (by omega),Option.bind_some]
 refine (lp' hN p.Chains (by omega) (fun n (u:List aG) i=>fM N p (List.replicate p.Alphas.length ⟨[]⟩) n u i) (fun t u=>some ⟨List.replicate p.Alphas.length ⟨[]⟩,u++t.map qo⟩) (fun u t=>u.length+t.length≤1048576) [] (by simpa using hc) (fun n u i c t g1 g2 g3 g4 g5 g6 gI gh=>?_) (fun n u i g1 g2 gI=>?_)).trans (by simp)
 ·simp only [List.length_cons] at gI
  have hm:=hp c g2
  simp only [fM,g5,if_true,g4,Option.bind_some,j8 _ (show c.Pos.length≤4294967296 by omega),bR (show u.length+[(⟨List.replicate c.Pos.length ⟨[]⟩⟩:aG)].length≤4294967296 by simp; omega),g6]
  rw [gh _ (by simp; omega)]; simp [qo]
 ·simp only [fM,g2,Bool.false_eq_true,if_false]; simp
def Da (ps ns:List aq) (i:Nat) (t:aa):Prop:=t.Ids.length=i+1∧t.Hits.length≤ns.length∧(i+1=ps.length→t.Hits.length=ns.length∧∀ x∈t.Hits,InR x)
def Hq (ps ns:List aq) (j i:Nat) (L:ab):Prop:=L.Toks.length≤j*100 ^ i∧∀ t∈L.Toks,Da ps ns i t
def FG (r:ac) (j:Nat) (w:aG):Prop:=w.Levels.length=(pos r.Pats).length∧∀ i L,w.Levels[i]?=some L→Hq (pos r.Pats) (neg r.Pats) j i L
theorem Eu {xs:List ao} {ps ns:List aq} {row:List Int} {id:Int} (hx:xs.length≤1048576):∀ t∈mA xs ps ns row id,Da ps ns row.length t:=by
 intro t ht
 unfold mA at ht
 split at ht
 ·simp only [List.mem_singleton] at ht
  subst ht
  refine ⟨by simp,?_,fun e=>?_⟩
  ·simp only
   split
   ·simp [fb]
   ·simp
  ·simp only [e,if_true]
   refine ⟨by simp [fb],fun x hx'=>?_⟩
   unfold fb at hx'
   obtain ⟨p,_,rfl⟩:=List.mem_map.1 hx'
   have:=Ar p (okB xs ps (row++[id])).1 xs
   exact wr (by omega) (by omega)
 ·cases ht
theorem uk {xs:List ao} {ps ns:List aq} {row ids:List Int} (hx:xs.length≤1048576):∀ t∈eB xs ps ns row ids,Da ps ns row.length t:=by
 intro t ht
 unfold eB at ht
 obtain ⟨v,_,h⟩:=List.mem_flatMap.1 ht
 exact Eu hx t h
theorem A7 {xs:List ao} {ps ns:List aq} {id:Int} {k:Nat} {B F:List aa} {A:List Int} (hx:xs.length≤1048576) (hB:∀ t∈B,t.Ids.length=k) (hF:∀ t∈F,t.Ids.length=k):∀ t∈gf xs ps ns id k B F A,Da ps ns k t:=by
 intro t ht
 unfold gf at ht
 split at ht
 ·rename_i e
  subst e
  exact uk hx t ht
 ·rcases List.mem_append.1 ht with ht | ht
  ·obtain ⟨u,hu,h⟩:=List.mem_flatMap.1 ht
   have:=uk hx t h
   rwa [hB u hu] at this
  ·obtain ⟨u,hu,h⟩:=List.mem_flatMap.1 ht
   have:=uk hx t h
   rwa [hF u hu] at this
theorem CM {j k b f a:Nat} (hj:j≤40) (ha:a≤41) (h:k≠0→b≤j*100 ^ (k - 1)∧f≤100 ^ (k - 1)):(if k=0 then 1 else b+f*a)≤100 ^ k:=by
 split
 ·rename_i e; subst e; exact Nat.le_refl _
 ·rename_i e
  obtain ⟨k,rfl⟩:∃ m,k=m+1:=⟨k - 1,by omega⟩
  obtain ⟨h1,h2⟩:=h e
  simp only [Nat.add_sub_cancel] at h1 h2
  have h3:f*a≤100 ^ k*41:=Nat.mul_le_mul h2 ha
  have h4:j*100 ^ k≤40*100 ^ k:=Nat.mul_le_mul_right _ hj
  rw [Nat.pow_succ]
  omega
theorem A3 {xs:List ao} {ps ns:List aq} {id:Int} {A:Nat→List Int} {j:Nat} (hj:j≤40) (hA:∀ k,(A k).length≤41) (hx:xs.length≤1048576):∀ (ls:List ab) (k:Nat) (B F:List aa),(k≠0→B.length≤j*100 ^ (k - 1)∧F.length≤100 ^ (k - 1))→(∀ t∈B,t.Ids.length=k)→(∀ t∈F,t.Ids.length=k) →
  (∀ i L,ls[i]?=some L→Hq ps ns j (k+i) L)→(jR xs ps ns id A k ls B F).length=ls.length∧∀ i L,(jR xs ps ns id A k ls B F)[i]?=some L→Hq ps ns (j+1) (k+i) L
 | [],k,B,F,h1,h2,h3,h4=>⟨rfl,fun i L h=>by simp [jR] at h⟩
 | M :: Ls,k,B,F,h1,h2,h3,h4=>by
  have hm:=Nat.le_trans (tV xs ps ns id k B F (A k)) (CM hj (hA k) h1)
  have ht:=A7 (xs:=xs) (ps:=ps) (ns:=ns) (id:=id) (A:=A k) hx h2 h3
  have hM:=h4 0 M rfl
  obtain ⟨hM1,hM2⟩:=hM
  simp only [Nat.add_zero] at hM1 hM2
  have ih:=A3 (xs:=xs) (ps:=ps) (ns:=ns) (id:=id) (A:=A) hj hA hx Ls (k+1) M.Toks (gf xs ps ns id k B F (A k)) (fun _=>⟨by simpa using hM1,by simpa using hm⟩) (fun t h=>(hM2 t h).1) (fun t h=>(ht t h).1) (fun i L h=>by
   have:=h4 (i+1) L (by simpa using h)
   rwa [show k+(i+1)=k+1+i by omega] at this)
  unfold jR
  refine ⟨by simp [ih.1],fun i L h=>?_⟩
  cases i with
  | zero=>
   simp only [List.getElem?_cons_zero,Option.some.injEq] at h
   subst h
   refine ⟨?_,fun t h=>?_⟩
   ·simp only [List.length_append,Nat.add_zero,Nat.succ_mul]; omega
   ·rcases List.mem_append.1 h with h | h
    ·exact hM2 t h
    ·exact ht t h
  | succ i=>
   have:=ih.2 i L (by simpa using h)
   rwa [show k+1+i=k+(i+1) by omega] at this
theorem HJ (n:Int):InR (IntKind.i64.wrap n):=by
 have e1:(2:Int) ^ 64=18446744073709551616:=by decide
 have e2:(2:Int) ^ (64 - 1)=9223372036854775808:=by decide
 unfold InR
 apply wr
 ·simp only [IntKind.wrap,IntKind.bits,IntKind.signed,e1,e2,Bool.true_and,decide_eq_true_eq]
  split <;> omega
 ·simp only [IntKind.wrap,IntKind.bits,IntKind.signed,e1,e2,Bool.true_and,decide_eq_true_eq]
  split <;> omega
theorem Cm {f:aw} {l:List aC} {b:Int}:∀ (ns:List aq) (h:List Int),(∀ x∈h,InR x)→∀ x∈jK f l b ns h,InR x
 | p :: ns,y :: h,hh,x,hx=>by
  unfold jK at hx
  rcases List.mem_cons.1 hx with rfl | hx
  ·split
   ·exact HJ _
   ·exact hh y (by simp)
  ·exact Cm ns h (fun z hz=>hh z (by simp [hz])) x hx
 | [],h,hh,x,hx=>by
  have:jK f l b [] h=h:=by cases h <;> rfl
  rw [this] at hx; exact hh x hx
 | p :: ns,[],hh,x,hx=>by simp [jK] at hx
theorem Es {xs:List ao} {ps ns:List aq} {f:aw} {b:Int} {i:Nat} {toks:List aa} (h:∀ t∈toks,Da ps ns i t):∀ t∈iN xs ps ns f b toks,Da ps ns i t:=by
 intro t ht
 unfold iN at ht
 obtain ⟨u,hu,rfl⟩:=List.mem_map.1 ht
 obtain ⟨h1,h2,h3⟩:=h u hu
 split
 ·exact ⟨h1,by simp only [uw]; exact h2,fun e=>⟨by simp only [uw]; exact (h3 e).1,Cm _ _ (h3 e).2⟩⟩
 ·exact ⟨h1,h2,h3⟩
theorem AR {xs:List ao} {r:ac} {f:aw} {b:Int} {j:Nat} {w:aG} (h:FG r j w):FG r j (fG xs (pos r.Pats) (neg r.Pats) f b w):=by
 obtain ⟨h1,h2⟩:=h
 unfold fG
 split
 ·rename_i L hL
  refine ⟨by simpa using h1,fun i M hM=>?_⟩
  simp only at hM
  rw [List.getElem?_set] at hM
  split at hM
  ·rename_i e
   split at hM
   ·simp only [Option.some.injEq] at hM
    subst hM
    subst e
    obtain ⟨a,b⟩:=h2 _ L hL
    exact ⟨by simpa [uy] using a,Es b⟩
   ·cases hM
  ·exact h2 i M hM
 ·exact ⟨h1,h2⟩
theorem xb {as:List aR} {B:Nat} (h:∀ i∈as,i.L.length≤B) (c:aD) (k:Nat):(ta as c k).length≤B:=by
 unfold ta
 split
 ·split
  ·rename_i i hi
   obtain ⟨_,_,e⟩:=a7 hi
   exact h i (List.mem_of_getElem? e)
  ·simp
 ·simp
theorem EH {xs:List ao} {as:List aR} {f:aw} {id:Int} {r:ac} {c:aD} {j:Nat} {w:aG} (hj:j≤40) (hA:∀ i∈as,i.L.length≤41) (hx:xs.length≤1048576) (h:FG r j w):FG r (j+1) (oZ xs as f id r c w):=by
 obtain ⟨h1,h2⟩:=AR (xs:=xs) (f:=f) (b:=1) h
 have:=A3 (xs:=xs) (ps:=pos r.Pats) (ns:=neg r.Pats) (id:=id) (A:=ta as c) hj (xb hA c) hx (fG xs (pos r.Pats) (neg r.Pats) f 1 w).Levels 0 [] [] (fun e=>absurd rfl e) (by simp) (by simp) (fun i L h=>by rw [Nat.zero_add]; exact h2 i L h)
 unfold oZ
 exact ⟨by rw [this.1]; exact h1,fun i L h=>by have:=this.2 i L h; rwa [Nat.zero_add] at this⟩
theorem Ec {A:Nat→Nat} {j:Nat} (hj:j≤40) (hA:∀ k,A k≤41):∀ (ls:List Nat) (k b f:Nat),(k≠0→b≤j*100 ^ (k - 1)∧f≤100 ^ (k - 1))→(∀ i l,ls[i]?=some l→l≤j*100 ^ (k+i))→k+ls.length≤4→BK A k ls b f
 | [],k,b,f,h1,h2,h3=>trivial
 | l :: ls,k,b,f,h1,h2,h3=>by
  simp only [List.length_cons] at h3
  have hm:=CM hj (hA k) h1
  have hl:=h2 0 l rfl
  rw [Nat.add_zero] at hl
  have hp:100 ^ k≤1000000:=by
   have:100 ^ k≤100 ^ 3:=Nat.pow_le_pow_right (by omega) (by omega)
   simpa using this
  have hl':j*100 ^ k≤40*1000000:=Nat.mul_le_mul hj hp
  refine ⟨by omega,Ec hj hA ls (k+1) l _ (fun _=>⟨by simpa using hl,by simpa using hm⟩) (fun i l' h=>?_) (by omega)⟩
  have:=h2 (i+1) l' (by simpa using h)
  rwa [show k+(i+1)=k+1+i by omega] at this
theorem te {g:ac→aD→aG→aG}:∀ (rs:List ac) (cs:List aD) (ws:List aG),rs.length=ws.length→cs.length=ws.length→(mJ g rs cs ws).length=ws.length∧∀ (i:Nat) (v:aG),(mJ g rs cs ws)[i]?=some v→∃ (r:ac) (c:aD) (w:aG),rs[i]?=some r∧cs[i]?=some c∧ws[i]?=some w∧v=g r c w
 | [],cs,[],_,_=>⟨by simp [mJ],fun i v h=>by simp [mJ] at h⟩
 | r :: rs,[],w :: ws,_,h=>by simp at h
 | r :: rs,c :: cs,w :: ws,h1,h2=>by
  have ih:=te (g:=g) rs cs ws (by simpa using h1) (by simpa using h2)
  unfold mJ
  refine ⟨by simp [ih.1],fun i v h=>?_⟩
  cases i with
  | zero=>exact ⟨r,c,w,rfl,rfl,rfl,by simpa using h.symm⟩
  | succ i=>
   obtain ⟨a,b,c',e1,e2,e3,e4⟩:=ih.2 i v (by simpa using h)
   exact ⟨a,b,c',by simpa using e1,by simpa using e2,by simpa using e3,e4⟩
theorem rO {f:aw} {id:Int} {B:Nat}:∀ (as:List ak) (is:List aR),(∀ i∈is,i.L.length≤B)→∀ i∈bT f id as is,i.L.length≤B+1
 | [],is,h,i,hi=>by
  have:bT f id [] is=is:=by cases is <;> rfl
  rw [this] at hi
  have:=h i hi; omega
 | a :: as,[],h,i,hi=>by simp [bT] at hi
 | a :: as,y :: is,h,i,hi=>by
  unfold bT at hi
  rcases List.mem_cons.1 hi with rfl | hi
  ·have:=h y (by simp)
   split
   ·simpa using this
   ·omega
  ·exact rO as is (fun z hz=>h z (by simp [hz])) i hi
structure xH (d:bi) (n:bB) (j:Nat) (m:aK):Prop where
 la:m.Alphas.length=n.Alphas.length
 lr:m.Rules.length=d.Rules.length
 al:∀ i∈m.Alphas,i.L.length≤j
 rows:∀ (i:Nat) (r:ac) (w:aG),d.Rules[i]?=some r→m.Rules[i]?=some w→FG r j w
theorem vS {d:bi} {n:bB} {m:aK} {s:ae} {id:Int} {j:Nat} (hj:j≤40) (hs:s.Items.length≤1048576) (hc:n.Chains.length=d.Rules.length) (h:xH d n j m):xH d n (j+1) (BF d n m s id):=by
 have h1:=rO (f:=(aI s.Items id).1) (id:=id) n.Alphas m.Alphas h.al
 have h2:=te (g:=oZ s.Items (bT (aI s.Items id).1 id n.Alphas m.Alphas) (aI s.Items id).1 id) d.Rules n.Chains m.Rules h.lr.symm (by rw [hc,h.lr])
 refine ⟨?_,?_,h1,?_⟩
 ·show (bT _ _ _ _).length=_
  rw [ph]; exact h.la
 ·show (mJ _ _ _ _).length=_
  rw [h2.1]; exact h.lr
 ·intro i r v e1 e2
  obtain ⟨r',c,w,a1,a2,a3,rfl⟩:=h2.2 i v e2
  rw [e1] at a1
  cases a1
  exact EH hj (fun y hy=>by have:=h1 y hy; omega) hs (h.rows i r w e1 a3)
theorem CO {d:bi} {n:bB} (h:Ats n.Alphas n.Chains d.Rules):xH d n 0 (j5 n):=by
 unfold j5
 refine ⟨by simp,by simp [h.len],fun i hi=>?_,fun i r w e1 e2=>?_⟩
 ·rw [(List.mem_replicate.1 hi).2]; simp
 ·simp only [List.getElem?_map,Option.map_eq_some_iff] at e2
  obtain ⟨c,hc,rfl⟩:=e2
  obtain ⟨hi,hr⟩:=List.getElem?_eq_some_iff.1 e1
  obtain ⟨hi',hc⟩:=List.getElem?_eq_some_iff.1 hc
  have hat:=(h.get i hi' hi).1
  rw [hc,hr] at hat
  refine ⟨by simp only [qo,List.length_replicate]; exact hat.len,fun k L hL=>?_⟩
  simp only [qo] at hL
  obtain ⟨_,e⟩:=List.getElem?_eq_some_iff.1 hL
  rw [List.getElem_replicate] at e
  subst e
  exact ⟨by simp,by simp⟩
theorem Gm {d:bi} {m:aK} {s:ae} {id:Int} {j:Nat} (hd:qf d=true) (hsz:C3 d) (hs:s.Items.length≤40) (hf:∀ x∈s.Items,x.F.Fields.length≤1048576) (hj:j≤40) (h:xH d (ct d) j m):G8 d (ct d) m s id:=by
 have hnd:=sA hd
 obtain ⟨_,hats,hal⟩:=tn hnd
 obtain ⟨⟨z1,z2⟩,z3,z4⟩:=xn hnd
 have hA:=rO (f:=(aI s.Items id).1) (id:=id) (ct d).Alphas m.Alphas h.al
 have hA':∀ i∈bT (aI s.Items id).1 id (ct d).Alphas m.Alphas,i.L.length≤41:=fun i hi=>by have:=hA i hi; omega
 have hrl:d.Rules.length≤1048576:=hsz.2.1
 have hr:∀ r∈d.Rules,r.Pats.length≤6∧1≤(pos r.Pats).length∧(pos r.Pats).length≤3∧(pos r.Pats).length=ai r.Pats∧pos r.Pats=r.Pats.take (ai r.Pats)∧eD r.Pats≤1048576∧∀ p∈r.Pats,p.Args.length≤1048576:=fun r hr=>by
  have ho:=qN hd r hr
  have hp:iH r.Pats=true:=by
   unfold lv at ho
   simp only [Bool.and_eq_true] at ho
   exact ho.2.2.1
  have hfl:=C8 hp
  have hfc:(pos r.Pats).length=ai r.Pats:=oW r.Pats
  unfold iH at hp
  simp only [Bool.and_eq_true,decide_eq_true_eq] at hp
  obtain ⟨⟨_,p1⟩,⟨p2,p3⟩,_⟩:=hp
  obtain ⟨_,⟨_,g1⟩,_,_,g2,_⟩:=hsz.2.2 r hr
  exact ⟨p1,by omega,by omega,hfc,hfl,g2,fun p hp=>(g1 p hp).2.1⟩
 have hmem:∀ (i:Nat) (r:ac),d.Rules[i]?=some r→r∈d.Rules:=fun i r e=>List.mem_of_getElem? e
 refine ⟨⟨by omega,hf,fun a ha=>(z2 a ha).2,z1,by rw [h.lr]; exact hrl,h.la,by rw [hats.len,h.lr],h.lr.symm,fun i hi=>by have:=h.al i hi; omega,fun i r c w g1 g2 g3=>?_⟩,hats,fun i r w g1 g3=>?_⟩
 ·obtain ⟨q1,q2,q3,q4,q5,q6,q7⟩:=hr r (hmem i r g1)
  obtain ⟨k1,k2⟩:=h.rows i r w g1 g3
  refine ⟨⟨by omega,q6,q7⟩,⟨by omega,k1,fun i L hL t ht=>((k2 i L hL).2 t ht).1,fun L hL t ht=>(((k2 _ L hL).2 t ht).2.2 (by omega)).1,fun k hk=>?_,?_,fun k=>by have:=xb hA' c k; omega⟩⟩
  ·obtain ⟨hi,hrr⟩:=List.getElem?_eq_some_iff.1 g1
   obtain ⟨hi',hcc⟩:=List.getElem?_eq_some_iff.1 g2
   have hat:=(hats.get i hi' hi).1
   rw [hcc,hrr] at hat
   have hkp:k < (pos r.Pats).length:=by omega
   have hkc:k < c.Pos.length:=by rw [hat.len]; exact hkp
   have e1:=hat.get k hkc hkp
   obtain ⟨a0,a1,e⟩:=a7 e1
   obtain ⟨q,_⟩:=List.getElem?_eq_some_iff.1 e
   have hlt:c.Pos[k].toNat < (bT (aI s.Items id).1 id (ct d).Alphas m.Alphas).length:=by rw [ph,h.la]; exact q
   have ecp:c.Pos[k]=((c.Pos[k].toNat:Nat):Int):=by omega
   exact ⟨c.Pos[k],_,ah hkc,by rw [ecp]; exact ah hlt⟩
  ·refine Ec hj (xb hA' c) _ 0 0 0 (fun e=>absurd rfl e) (fun i l hl=>?_) (by simp; omega)
   rw [List.getElem?_map,Option.map_eq_some_iff] at hl
   obtain ⟨L,hL,rfl⟩:=hl
   rw [Nat.zero_add]
   exact (k2 i L hL).1
 ·obtain ⟨q1,q2,q3,q4,q5,q6,q7⟩:=hr r (hmem i r g1)
  obtain ⟨k1,k2⟩:=h.rows i r w g1 g3
  exact ⟨⟨by omega,q6,q7,by omega,hf,q5⟩,q4,fun L hL t ht=>(((k2 _ L hL).2 t ht).2.2 (by omega)).2⟩
theorem HH {N:Nat} (p:bB) (s3:List aG) (s4:Nat) (K:List aG→Int→Option aK) (h4:s4 < p.Chains.length) (hl:p.Chains[s4].Pos.length≤1048576) (hs:s3.length≤s4) (hc:p.Chains.length≤1048576):∀ (n i:Nat),i≤p.Chains[s4].Pos.length→p.Chains[s4].Pos.length - i < n →
  ip N p s3 s4 K n (List.replicate i ⟨[]⟩) i=K (s3++[qo p.Chains[s4]]) ((s4+1:Nat):Int):=by
 intro n
 induction n with
 | zero=>intro i _ h; omega
 | succ n ih=>
  intro i hi hn
  simp only [ip,ah h4,Option.bind_some]
  by_cases hlt:i < p.Chains[s4].Pos.length
  ·have c1:decide ((i:Int) < (p.Chains[s4].Pos.length:Int))=true:=decide_eq_true (by omega)
   simp only [c1,if_true,bR (show (List.replicate i (⟨[]⟩:ab)).length+[(⟨[]⟩:ab)].length≤4294967296 by simp; omega),Option.bind_some,wr1 i (by omega)]
   have:=ih (i+1) (by omega) (by omega)
   rw [List.replicate_succ'] at this
   exact this
  ·have c1:decide ((i:Int) < (p.Chains[s4].Pos.length:Int))=false:=decide_eq_false (by omega)
   have hi':i=p.Chains[s4].Pos.length:=by omega
   simp only [c1,Bool.false_eq_true,if_false,bR (show s3.length+[(⟨List.replicate i ⟨[]⟩⟩:aG)].length≤4294967296 by simp; omega),Option.bind_some,wr1 s4 (by omega)]
   rw [hi']; rfl
theorem GD {N:Nat} (hN:1099000000000≤N) (p:bB) (as:List aR) (hc:p.Chains.length≤1048576) (hp:∀ c∈p.Chains,c.Pos.length≤1048576):∀ (n i:Nat),i≤p.Chains.length→p.Chains.length - i < n →
  dQ N p as n ((p.Chains.take i).map qo) i=some ⟨as,p.Chains.map qo⟩:=by
 intro n
 induction n with
 | zero=>intro i _ h; omega
 | succ n ih=>
  intro i hi hn
  simp only [dQ]
  by_cases hlt:i < p.Chains.length
  ·have c1:decide ((i:Int) < (p.Chains.length:Int))=true:=decide_eq_true (by omega)
   have hm:=hp _ (List.getElem_mem hlt)
   have:=HH (N:=N) p ((p.Chains.take i).map qo) i (dQ N p as n) hlt hm (by simp; omega) hc N 0 (by omega) (by omega)
   have ih1:=ih (i+1) (by omega) (by omega)
   have ht:(p.Chains.take (i+1)).map qo=(p.Chains.take i).map qo++[qo p.Chains[i]]:=by
    rw [List.take_succ_eq_append_getElem hlt,List.map_append]; rfl
   rw [ht] at ih1
   simp only [c1,if_true]; rw [← ih1]; exact this
  ·have c1:decide ((i:Int) < (p.Chains.length:Int))=false:=decide_eq_false (by omega)
   simp only [c1,Bool.false_eq_true,if_false]
   rw [List.take_of_length_le (by omega)]
theorem GN {N:Nat} (p:bB) (ha:p.Alphas.length≤1048576):∀ (n i:Nat),i≤p.Alphas.length→p.Alphas.length - i < n →
  ij N p n (List.replicate i ⟨[]⟩) i=dQ N p (List.replicate p.Alphas.length ⟨[]⟩) N [] 0:=by
 intro n
 induction n with
 | zero=>intro i _ h; omega
 | succ n ih=>
  intro i hi hn
  simp only [ij]
  by_cases hlt:i < p.Alphas.length
  ·have c1:decide ((i:Int) < (p.Alphas.length:Int))=true:=decide_eq_true (by omega)
   simp only [c1,if_true,bR (show (List.replicate i (⟨[]⟩:aR)).length+[(⟨[]⟩:aR)].length≤4294967296 by simp; omega),Option.bind_some,wr1 i (by omega)]
   have:=ih (i+1) (by omega) (by omega)
   rw [List.replicate_succ'] at this
   exact this
  ·have c1:decide ((i:Int) < (p.Alphas.length:Int))=false:=decide_eq_false (by omega)
   have hi':i=p.Alphas.length:=by omega
   simp only [c1,Bool.false_eq_true,if_false]
   rw [hi']
theorem Gr {N:Nat} (hN:1099000000000≤N) (p:bB) (ha:p.Alphas.length≤1048576) (hc:p.Chains.length≤1048576) (hp:∀ c∈p.Chains,c.Pos.length≤1048576):oF N p=some (j5 p):=by
 have a:=GN (N:=N) p ha N 0 (by omega) (by omega)
 have b:=GD hN p (List.replicate p.Alphas.length ⟨[]⟩) hc hp N 0 (by omega) (by omega)
 unfold oF j5; exact a.trans b
def sY (f:aw):Bool:=ft f.Kind && (f.Fields.all sJ && decide (f.Fields.length≤5))
def Dk (f:aw):Prop:=f.Kind.size≤1048576∧f.Fields.length≤1048576∧∀ v∈f.Fields,v.S.size≤1048576
def Am (s:ae):Prop:=s.Items.length≤1048576∧∀ x∈s.Items,Dk x.F
def gm (done:List ao) (v:Int):Bool:=match done.getLast? with | none=>true | some y=>decide (y.Id < v)
def lO (nx:Int):List ao→List ao→Bool
 | _,[]=>true
 | done,x :: t=>(sY x.F && (decide (1≤x.Id) && decide (x.Id < nx))) && (gm done x.Id && ((done.all fun y=>!decide (x.F=y.F)) && lO nx (done++[x]) t))
def pi (s:ae):Bool:=(decide (1≤s.Next) && decide (s.Next≤1000000)) && (decide (s.Items.length≤40) && lO s.Next [] s.Items)
theorem Ce {α:Type} {xs:List α} {i:Nat} (h:0 < i) (h':i≤xs.length):(xs.take i).getLast?=some (xs[i - 1]'(by omega)):=by
 rw [List.getLast?_eq_getElem?,List.length_take,Nat.min_eq_left h',List.getElem?_take_of_lt (by omega),List.getElem?_eq_getElem (by omega)]
theorem Ga {N:Nat} (hN:1099000000000≤N) (x y:List aQ) (hl:x.length≤4294967296):ge N x y=some (decide (x=y)):=by
 unfold ge
 by_cases c:x.length=y.length
 ·rw [if_neg (by simp; omega)]
  refine (iu (dl N x y) x y c (by omega) (fun a b=>some (decide (a=b))) (fun a _ b _=>rfl) (fun k i=>by simp only [dl,jU,Option.bind_some]) N 0 (by omega) (by omega)).trans ?_
  simp
 ·rw [if_pos (by simp; omega)]
  have : ¬ x=y:=fun e=>c (by rw [e])
  simp [this]
theorem GT {N:Nat} (hN:1099000000000≤N) (x y:aw) (hl:x.Fields.length≤4294967296):kt N x y=some (decide (x=y)):=by
 unfold kt
 simp only [Ga hN _ _ hl,Option.bind_some,ng,dD]
 obtain ⟨a,b⟩:=x; obtain ⟨c,d⟩:=y
 simp only [aw.mk.injEq,Bool.decide_and]
def EQ (xs:List ao) (f:aw):Int:=match xs.find? (fun x=>decide (x.F=f)) with | some x=>x.Id | none=>0
theorem ue (x:ao) (xs:List ao) (f:aw):EQ (x :: xs) f=if x.F=f then x.Id else EQ xs f:=by
 unfold EQ
 rw [List.find?_cons]
 by_cases h:x.F=f <;> simp [h]
theorem Jd {N:Nat} (hN:1099000000000≤N) (s:ae) (f:aw) (hl:s.Items.length≤1048576) (hx:∀ x∈s.Items,x.F.Fields.length≤1048576):rq N s f=some (EQ s.Items f):=by
 unfold rq
 refine lp0 hN s.Items (by omega) (gw N s f) (fun t=>some (EQ t f)) (fun n i x t h1 h2 h3 h4 h5 h6 h7=>?_) (fun n i h1 h2=>?_)
 ·simp only [gw,h5,if_true,h4,Option.bind_some,GT hN x.F f (by have:=hx x h2; omega),h6,h7,ue]
  by_cases h:x.F=f <;> simp [h]
 ·simp only [gw,h2,Bool.false_eq_true,if_false]; rfl
end Go.Proofs.YtiljnppocjgkkaaGreat
