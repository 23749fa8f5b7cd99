/- Plain laws, one after the other: PLAddItem. -/
import Derived.Test.YtnnkgijdbebnaaaGreatPLib
import Derived.Test.YtnnkgijdbebnaaaGreatWExactAddItemPur
import Derived.Test.YtnnkgijdbebnaaaGreatWExactAddItemMod
/-
 Plain laws of common loops, for the cores. No program.
-/
namespace Go.Proofs.YtnnkgijdbebnaaaGreat
open Eng
set_option linter.unusedVariables false
set_option linter.unusedSimpArgs false
theorem bS {α:Type} {xs ys:List α} (h:xs.length+ys.length≤1099511627776):app xs ys=some (xs++ys):=by unfold app; rw [if_pos h]
theorem iK {α:Type} {ys:List α} (h:ys.length≤1099511627776):app ([]:List α) ys=some ys:=by rw [bS (by simpa using h)]; rfl
theorem z6 {α:Type} (f:Nat→Int→Option Bool) (xs:List α) (hl:xs.length≤1099511627776) (p:α→Bool) (z:Bool) (i0:Nat)
  (hs:∀ n (i:Nat) (x:α),i0≤i→idx xs (i:Int)=some x→x∈xs→decide ((i:Int) < (xs.length:Int))=true→IntKind.i64.wrap ((i:Int)+1)=((i+1:Nat):Int)→f (n+1) i=if p x then f n ((i+1:Nat):Int) else some false)
  (he:∀ n (i:Nat),decide ((i:Int) < (xs.length:Int))=false→f (n+1) i=some z) :
  ∀ (n i:Nat),i0≤i→i≤xs.length→xs.length - i < n→f n i=some ((xs.drop i).all p && z):=by
 intro n
 induction n with
 | zero=>intro i _ _ h; omega
 | succ n ih=>
  intro i h0 hi hn
  by_cases hlt:i < xs.length
  ·rw [List.drop_eq_getElem_cons hlt,List.all_cons,hs n i xs[i] h0 (an hlt) (List.getElem_mem hlt) (decide_eq_true (by omega)) (wr1 i (by omega)),ih (i+1) (by omega) (by omega) (by omega)]
   cases p xs[i] <;> simp
  ·rw [he n i (decide_eq_false (by omega)),List.drop_of_length_le (by omega),List.all_nil,Bool.true_and]
theorem zQ {α:Type} (f:Nat→Int→Option Int) (xs:List α) (hl:xs.length≤1099511627776) (p:α→Bool)
  (hs:∀ n (i:Nat) (x:α),idx xs (i:Int)=some x→x∈xs→decide ((i:Int) < (xs.length:Int))=true→IntKind.i64.wrap ((i:Int)+1)=((i+1:Nat):Int)→f (n+1) i=if p x then some (i:Int) else f n ((i+1:Nat):Int))
  (he:∀ n (i:Nat),decide ((i:Int) < (xs.length:Int))=false→f (n+1) i=some (-1)) :
  ∀ (n i:Nat),i≤xs.length→xs.length - i < n→f n i=some (match (xs.drop i).findIdx? p with | some j=>((i+j:Nat):Int) | none=>-1):=by
 intro n
 induction n with
 | zero=>intro i _ h; omega
 | succ n ih=>
  intro i hi hn
  by_cases hlt:i < xs.length
  ·rw [List.drop_eq_getElem_cons hlt,List.findIdx?_cons,hs n i xs[i] (an hlt) (List.getElem_mem hlt) (decide_eq_true (by omega)) (wr1 i (by omega)),ih (i+1) (by omega) (by omega)]
   cases p xs[i]
   ·simp only [Bool.false_eq_true,if_false]
    cases (xs.drop (i+1)).findIdx? p with
    | none=>rfl
    | some j=>simp only [Option.map_some]; congr 2; omega
   ·simp
  ·rw [he n i (decide_eq_false (by omega)),List.drop_of_length_le (by omega)]; rfl
theorem J6 {α:Type} (xs:List α) (p:α→Bool):decide (0≤(match xs.findIdx? p with | some j=>((0+j:Nat):Int) | none=>-1))=xs.any p:=by
 cases h:xs.findIdx? p with
 | none=>
  rw [List.findIdx?_eq_none_iff] at h
  simp only [show ¬ (0:Int) ≤ -1 by omega,decide_false]
  symm; rw [List.any_eq_false]; intro x hx; simp [h x hx]
 | some j=>
  simp only [Nat.zero_add,show (0:Int)≤(j:Int) by omega,decide_true]
  rw [List.findIdx?_eq_some_iff_getElem] at h
  obtain ⟨hj,hp,_⟩:=h
  symm; rw [List.any_eq_true]; exact ⟨_,List.getElem_mem hj,hp⟩
theorem oA (a b:Bool):(if a=true then some b else some false)=some (a && b):=by cases a <;> rfl
theorem orS (a b:Bool):(if a=true then some true else some b)=some (a || b):=by cases a <;> rfl
end Go.Proofs.YtnnkgijdbebnaaaGreat
/-
 Plain laws of loops over lists, one law for all. No program.
-/
namespace Go.Proofs.YtnnkgijdbebnaaaGreat
open Eng
set_option linter.unusedVariables false
set_option linter.unusedSimpArgs false
theorem lp {σ α β:Type} (xs:List α) (hl:xs.length≤1099511627776) (f:Nat→σ→Int→Option β) (G:List α→σ→Option β) (I:σ→List α→Prop)
  (hs:∀ n s (i:Nat) (x:α) (t:List α),xs.drop i=x :: t→x∈xs→i < xs.length→idx xs (i:Int)=some x→decide ((i:Int) < (xs.length:Int))=true→IntKind.i64.wrap ((i:Int)+1)=((i+1:Nat):Int)→I s (x :: t) →
   (∀ s',I s' t→f n s' ((i+1:Nat):Int)=G t s')→f (n+1) s i=G (x :: t) s)
  (he:∀ n s (i:Nat),i=xs.length→decide ((i:Int) < (xs.length:Int))=false→I s []→f (n+1) s i=G [] s) :
  ∀ (n i:Nat) (s:σ),i≤xs.length→xs.length - i < n→I s (xs.drop i)→f n s i=G (xs.drop i) s:=by
 intro n
 induction n with
 | zero=>intro i s _ h; omega
 | succ n ih=>
  intro i s hi hn hI
  by_cases hlt:i < xs.length
  ·have hd:=List.drop_eq_getElem_cons hlt
   rw [hd] at hI ⊢
   exact hs n s i _ _ hd (List.getElem_mem hlt) hlt (an hlt) (decide_eq_true (by omega)) (wr1 i (by omega)) hI (fun s' hs'=>ih (i+1) s' (by omega) (by omega) hs')
  ·have hd:xs.drop i=[]:=List.drop_of_length_le (by omega)
   rw [hd] at hI ⊢
   exact he n s i (by omega) (decide_eq_false (by omega)) hI
theorem lp' {σ α β:Type} {N:Nat} (hN:1399000000000≤N) (xs:List α) (hl:xs.length≤1099511627776) (f:Nat→σ→Int→Option β) (G:List α→σ→Option β) (I:σ→List α→Prop) (s:σ) (h0:I s xs)
  (hs:∀ n s (i:Nat) (x:α) (t:List α),xs.drop i=x :: t→x∈xs→i < xs.length→idx xs (i:Int)=some x→decide ((i:Int) < (xs.length:Int))=true→IntKind.i64.wrap ((i:Int)+1)=((i+1:Nat):Int)→I s (x :: t) →
   (∀ s',I s' t→f n s' ((i+1:Nat):Int)=G t s')→f (n+1) s i=G (x :: t) s)
  (he:∀ n s (i:Nat),i=xs.length→decide ((i:Int) < (xs.length:Int))=false→I s []→f (n+1) s i=G [] s):f N s 0=G xs s:=by
 have:=lp xs hl f G I hs he N 0 s (by omega) (by omega) (by simpa using h0)
 simpa using this
theorem lp0 {α β:Type} {N:Nat} (hN:1399000000000≤N) (xs:List α) (hl:xs.length≤1099511627776) (f:Nat→Int→Option β) (G:List α→Option β)
  (hs:∀ n (i:Nat) (x:α) (t:List α),xs.drop i=x :: t→x∈xs→i < xs.length→idx xs (i:Int)=some x→decide ((i:Int) < (xs.length:Int))=true→IntKind.i64.wrap ((i:Int)+1)=((i+1:Nat):Int) →
   f n ((i+1:Nat):Int)=G t→f (n+1) i=G (x :: t))
  (he:∀ n (i:Nat),i=xs.length→decide ((i:Int) < (xs.length:Int))=false→f (n+1) i=G []):f N 0=G xs:=by
 have:=lp' (σ:=Unit) hN xs hl (fun n _ i=>f n i) (fun t _=>G t) (fun _ _=>True) () trivial (fun n _ i x t h1 h2 h3 h4 h5 h6 _ h8=>hs n i x t h1 h2 h3 h4 h5 h6 (h8 () trivial)) (fun n _ i h1 h2 _=>he n i h1 h2)
 simpa using this
theorem OU (a b:Bool):(if (!a)=true then some true else some b)=some (!a || b):=by cases a <;> rfl
def zv:aL:=⟨0,0,⟨#[]⟩⟩
def xk (p:List aH) (n:ByteArray):aL × Bool:=match p.find? (fun b=>seq b.Name n) with
 | some b=>(b.V,true)
 | none=>(zv,false)
theorem CS (b:aH) (p:List aH) (n:ByteArray):xk (b :: p) n=if seq b.Name n=true then (b.V,true) else xk p n:=by
 unfold xk; rw [List.find?_cons]
 cases seq b.Name n <;> simp
theorem MZ {N:Nat} (hN:1399000000000≤N) (p:List aH) (n:ByteArray) (hl:p.length≤1099511627776):sd N p n=some (xk p n):=by
 unfold sd
 have:∀ (k i:Nat),i≤p.length→p.length - i < k→i8 N p n k i=some (xk (p.drop i) n):=by
  intro k
  induction k with
  | zero=>intro i _ h; omega
  | succ k ih=>
   intro i hi hk
   simp only [i8]
   by_cases hlt:i < p.length
   ·have c1:decide ((i:Int) < (p.length:Int))=true:=decide_eq_true (by omega)
    rw [List.drop_eq_getElem_cons hlt,CS]
    simp only [c1,if_true,an hlt,Option.bind_some,wr1 i (by omega),ih (i+1) (by omega) (by omega)]
    cases seq p[i].Name n <;> rfl
   ·have c1:decide ((i:Int) < (p.length:Int))=false:=decide_eq_false (by omega)
    simp only [c1,Bool.false_eq_true,if_false]
    rw [List.drop_of_length_le (by omega)]; rfl
 exact this N 0 (by omega) (by omega)
def dC (b0:List aH):List be→List aL→List aH→List aH × Bool
 | a :: as,v :: vs,s=>
  if a.K=2 then (if bp a.V v=true then dC b0 as vs s else (b0,false))
  else if a.K=1 then (if (xk s a.S).2=true then (if bp (xk s a.S).1 v=true then dC b0 as vs s else (b0,false)) else dC b0 as vs (s++[⟨a.S,v⟩]))
  else dC b0 as vs s
 | _,_,s=>(s,true)
theorem Ge {N:Nat} (hN:1399000000000≤N) (p:av) (f:aw) (b:List aH) (he:p.Args.length=f.Fields.length) (hl:p.Args.length≤1048576) (hb:b.length≤2147483648):∀ (n i:Nat) (s:List aH),i≤p.Args.length→p.Args.length - i < n→s.length≤2147483648+i →
  fJ N p f b n s i=some (dC b (p.Args.drop i) (f.Fields.drop i) s):=by
 intro n
 induction n with
 | zero=>intro i s _ h; omega
 | succ n ih=>
  intro i s hi hn hs
  simp only [fJ]
  by_cases hlt:i < p.Args.length
  ·have c1:decide ((i:Int) < (p.Args.length:Int))=true:=decide_eq_true (by omega)
   have hlt':i < f.Fields.length:=by omega
   rw [List.drop_eq_getElem_cons hlt,List.drop_eq_getElem_cons hlt',dC]
   simp only [c1,if_true,an hlt,an hlt',Option.bind_some,MZ hN s _ (show s.length≤1099511627776 by omega),iK (show b.length≤1099511627776 by omega),bS (show s.length+[(⟨p.Args[i].S,f.Fields[i]⟩:aH)].length≤1099511627776 by simp; omega),wr1 i (by omega),oA,orS]
   have ih1:=ih (i+1) s (by omega) (by omega) (by omega)
   have ih2:=ih (i+1) (s++[⟨p.Args[i].S,f.Fields[i]⟩]) (by omega) (by omega) (by simp; omega)
   by_cases k2:p.Args[i].K=2
   ·have k1 : ¬ p.Args[i].K=1:=by omega
    simp only [k2,k1,decide_true,decide_false,if_true,if_false,Bool.true_and,Bool.false_and,Bool.or_false,Bool.false_eq_true,Option.bind_some,show ¬ (2:Int)=1 by omega]
    cases bp p.Args[i].V f.Fields[i] with
    | true=>simpa using ih1
    | false=>simp
   ·by_cases k1:p.Args[i].K=1
    ·simp only [k1,decide_true,decide_false,if_true,if_false,Bool.true_and,Bool.false_and,Bool.false_or,Bool.false_eq_true,Option.bind_some,show ¬ (1:Int)=2 by omega]
     cases (xk s p.Args[i].S).2 with
     | true=>
      simp only [if_true,Bool.not_true,Bool.true_and,Bool.false_eq_true,if_false]
      cases bp (xk s p.Args[i].S).1 f.Fields[i] with
      | true=>simpa using ih1
      | false=>simp
     | false=>simpa using ih2
    ·simp only [k1,k2,decide_false,if_false,Bool.false_and,Bool.false_or,Bool.or_false,Bool.false_eq_true,Option.bind_some]
     simpa using ih1
  ·have c1:decide ((i:Int) < (p.Args.length:Int))=false:=decide_eq_false (by omega)
   simp only [c1,Bool.false_eq_true,if_false]
   rw [List.drop_of_length_le (by omega)]
   rfl
def cb (p:av) (f:aw) (b:List aH):List aH × Bool:=if seq p.Kind f.Kind=true∧p.Args.length=f.Fields.length then dC b p.Args f.Fields b else (b,false)
theorem HM {N:Nat} (hN:1399000000000≤N) (p:av) (f:aw) (b:List aH) (hl:p.Args.length≤1048576) (hb:b.length≤2147483648):ky N p f b=some (cb p f b):=by
 unfold ky cb
 rw [iK (by omega)]
 simp only [Option.bind_some,orS]
 cases hk:seq p.Kind f.Kind with
 | false=>simp
 | true=>
  by_cases he:p.Args.length=f.Fields.length
  ·have he':decide ((p.Args.length:Int)=(f.Fields.length:Int))=true:=decide_eq_true (by omega)
   have:=(Ge hN p f b he hl hb N 0 b (by omega) (by omega) (by omega))
   simp only [he',he,Bool.not_true,Bool.or_false,Bool.false_eq_true,if_false,true_and,if_true]
   simpa using this
  ·have he':decide ((p.Args.length:Int)=(f.Fields.length:Int))=false:=decide_eq_false (by omega)
   simp [he',he]
theorem sQ {b0:List aH}:∀ (as:List be) (vs:List aL) (s:List aH),(dC b0 as vs s).1.length≤b0.length∨(dC b0 as vs s).1.length≤s.length+as.length
 | [],vs,s=>.inr (by simp [dC])
 | a :: as,[],s=>.inr (by simp [dC])
 | a :: as,v :: vs,s=>by
  have h1:=sQ (b0:=b0) as vs s
  have h2:=sQ (b0:=b0) as vs (s++[⟨a.S,v⟩])
  simp only [List.length_append,List.length_cons,List.length_nil] at h1 h2 ⊢
  unfold dC
  split
  ·split
   ·omega
   ·exact .inl (Nat.le_refl _)
  ·split
   ·split
    ·split
     ·omega
     ·exact .inl (Nat.le_refl _)
    ·omega
   ·omega
theorem tH (p:av) (f:aw) (b:List aH):(cb p f b).1.length≤b.length+p.Args.length:=by
 unfold cb
 split
 ·have:=sQ (b0:=b) p.Args f.Fields b; omega
 ·simp
def fO (l:List av):Nat:=(l.map fun p=>p.Args.length).sum
theorem iS (p:av) (t:List av):fO (p :: t)=p.Args.length+fO t:=by simp [fO]
theorem E5 (n:Nat):∀ (l:List av),fO (l.take n)≤fO l:=by
 induction n with
 | zero=>intro l; simp [fO]
 | succ n ih=>
  intro l
  cases l with
  | nil=>simp
  | cons p t=>rw [List.take_succ_cons,iS,iS]; have:=ih t; omega
def pos (l:List av):List av:=l.filter fun p=>!p.Not
theorem xU:∀ (l:List av),fO (pos l)≤fO l
 | []=>by simp [pos]
 | p :: t=>by
  have:=xU t
  unfold pos at this ⊢
  rw [List.filter_cons,iS]
  split
  ·rw [iS]; omega
  ·omega
theorem Mm (l:List av):(l.filter fun p=>p.Not == false)=pos l:=by
 unfold pos; congr 1; funext p; cases p.Not <;> rfl
def Jo:aw:=⟨⟨#[]⟩,[]⟩
def aM (xs:List aC) (v:Int):aw × Bool:=match xs.find? (fun x=>decide (x.Id=v)) with | some x=>(x.F,true) | none=>(Jo,false)
theorem y5 (x:aC) (xs:List aC) (v:Int):aM (x :: xs) v=if x.Id=v then (x.F,true) else aM xs v:=by
 unfold aM
 rw [List.find?_cons]
 by_cases h:x.Id=v <;> simp [h]
theorem Gw {xs:List aC} (hx:∀ x∈xs,x.F.Fields.length≤1048576) (v:Int):(aM xs v).1.Fields.length≤1048576:=by
 unfold aM
 split
 ·rename_i x h; exact hx x (List.mem_of_find?_eq_some h)
 ·simp [Jo]
def gF (xs:List aC):List av→List Int→List aH→List aH × Bool
 | [],[],l=>(l,true)
 | p :: t,v :: ids,l=>if (aM xs v).2=true∧(cb p (aM xs v).1 l).2=true then gF xs t ids (cb p (aM xs v).1 l).1 else ([],false)
 | _,_,_=>([],false)
theorem A4 {xs:List aC}:∀ (ps:List av) (ids:List Int) (l:List aH),(gF xs ps ids l).1.length≤l.length+fO ps
 | [],[],l=>by simp [gF]
 | [],v :: ids,l=>by simp [gF]
 | p :: t,[],l=>by simp [gF]
 | p :: t,v :: ids,l=>by
  have h1:=tH p (aM xs v).1 l
  have h2:=A4 (xs:=xs) t ids (cb p (aM xs v).1 l).1
  rw [iS]
  unfold gF
  split
  ·omega
  ·simp
def Ec (p:av) (l:List aH) (xs:List aC):Nat:=xs.countP fun x=>(cb p x.F l).2
theorem KD (p:av) (l:List aH) (xs:List aC):Ec p l xs≤xs.length:=List.countP_le_length
def jQ:List be→List aL
 | []=>[]
 | a :: t=>if a.K=2 then a.V :: jQ t else jQ t
def ats:Nat→List be→List Int
 | _,[]=>[]
 | i,a :: t=>if a.K=2 then (i:Int) :: ats (i+1) t else ats (i+1) t
def aT (p:av):a9:=⟨p.Kind,(p.Args.length:Int),jQ p.Args,ats 0 p.Args⟩
theorem zq:∀ (l:List be),(jQ l).length≤l.length
 | []=>by simp [jQ]
 | a :: t=>by have:=zq t; unfold jQ; split <;> simp <;> omega
theorem HJ:∀ (l:List be) (i:Nat),(ats i l).length≤l.length
 | [],_=>by simp [ats]
 | a :: t,i=>by have:=HJ t (i+1); unfold ats; split <;> simp <;> omega
theorem Ko {N:Nat} (hN:1399000000000≤N) (p:av) (hl:p.Args.length≤1048576):oS N p=some (aT p):=by
 have lp:∀ (n i:Nat) (cs:List aL) (as:List Int),i≤p.Args.length→p.Args.length - i < n→cs.length≤i→as.length≤i →
   ff N p n cs as i=some ⟨p.Kind,(p.Args.length:Int),cs++jQ (p.Args.drop i),as++ats i (p.Args.drop i)⟩:=by
  intro n
  induction n with
  | zero=>intro i _ _ _ h; omega
  | succ n ih=>
   intro i cs as hi hn h1 h2
   by_cases hlt:i < p.Args.length
   ·have c1:decide ((i:Int) < (p.Args.length:Int))=true:=decide_eq_true (by omega)
    rw [List.drop_eq_getElem_cons hlt]
    simp only [ff,c1,if_true,an hlt,Option.bind_some,wr1 i (by omega),jQ,ats]
    by_cases hk:p.Args[i].K=2
    ·simp only [hk,decide_true,if_true,bS (show cs.length+[p.Args[i].V].length≤1099511627776 by simp; omega),bS (show as.length+[(i:Int)].length≤1099511627776 by simp; omega),Option.bind_some]
     rw [ih (i+1) _ _ (by omega) (by omega) (by simp; omega) (by simp; omega)]; simp
    ·simp only [hk,decide_false,Bool.false_eq_true,if_false]
     exact ih (i+1) _ _ (by omega) (by omega) (by omega) (by omega)
   ·have c1:decide ((i:Int) < (p.Args.length:Int))=false:=decide_eq_false (by omega)
    rw [List.drop_of_length_le (by omega)]
    simp only [ff,c1,Bool.false_eq_true,if_false,jQ,ats,List.append_nil]
 have:=lp N 0 [] [] (by omega) (by omega) (by simp) (by simp)
 unfold oS aT
 simpa using this
theorem Nm (x y:aL):bp x y=decide (x=y):=lS x y
def jL (a:a9):Prop:=a.Consts.length≤1048576∧a.At.length≤1048576
theorem GS {N:Nat} (hN:1399000000000≤N) (x y:List Int) (hl:x.length≤1099511627776):cY N x y=some (decide (x=y)):=by
 unfold cY
 by_cases c:x.length=y.length
 ·rw [if_neg (by simp; omega)]
  refine (gn (cQ N x y) x y c (by omega) (fun a b=>some (decide (a=b))) (fun a _ b _=>rfl) (fun k i=>rfl) N 0 (by omega) (by omega)).trans ?_
  simp
 ·rw [if_pos (by simp; omega)]
  have : ¬ x=y:=fun e=>c (by rw [e])
  simp [this]
theorem Lr {N:Nat} (hN:1399000000000≤N) (x y:List aL) (hl:x.length≤1099511627776):bI N x y=some (decide (x=y)):=by
 unfold bI
 by_cases c:x.length=y.length
 ·rw [if_neg (by simp; omega)]
  refine (gn (bh N x y) x y c (by omega) (fun a b=>some (decide (a=b))) (fun a _ b _=>rfl) (fun k i=>by simp only [bh,Nm,Option.bind_some]) N 0 (by omega) (by omega)).trans ?_
  simp
 ·rw [if_pos (by simp; omega)]
  have : ¬ x=y:=fun e=>c (by rw [e])
  simp [this]
theorem Hx {N:Nat} (hN:1399000000000≤N) (x y:a9) (h:jL x):dG N x y=some (decide (x=y)):=by
 unfold dG
 simp only [GS hN _ _ (show x.At.length≤1099511627776 by have:=h.2; omega),Lr hN _ _ (show x.Consts.length≤1099511627776 by have:=h.1; omega),Option.bind_some,oA,dA]
 obtain ⟨a,b,c,d⟩:=x; obtain ⟨e,f,g,k⟩:=y
 simp only [a9.mk.injEq,← Bool.decide_and,and_assoc]
def jN (fs:List aL):List Int→List aL→Bool
 | [],_=>true
 | _ :: _,[]=>false
 | x :: t,c :: cs=>(decide (0≤x) && (decide (x < (fs.length:Int)) && decide (idx fs x=some c))) && jN fs t cs
def jJ (a:a9) (f:aw):Bool:=(seq f.Kind a.Kind && decide ((f.Fields.length:Int)=a.N)) && jN f.Fields a.At a.Consts
theorem J2 {N:Nat} (hN:1399000000000≤N) (a:a9) (f:aw) (h:a.At.length≤1048576):rz N a f=some (jJ a f):=by
 have lp:∀ (n i:Nat),i≤a.At.length→a.At.length - i < n→hU N a f n i=some (jN f.Fields (a.At.drop i) (a.Consts.drop i)):=by
  intro n
  induction n with
  | zero=>intro i _ h; omega
  | succ n ih=>
   intro i hi hn
   simp only [hU]
   by_cases hlt:i < a.At.length
   ·have c1:decide ((i:Int) < (a.At.length:Int))=true:=decide_eq_true (by omega)
    rw [List.drop_eq_getElem_cons hlt]
    simp only [c1,if_true,an hlt,Option.bind_some,wr1 i (by omega),ih (i+1) (by omega) (by omega)]
    by_cases hc:i < a.Consts.length
    ·have c2:decide ((a.Consts.length:Int)≤(i:Int))=false:=decide_eq_false (by omega)
     rw [List.drop_eq_getElem_cons hc,jN]
     by_cases h0:a.At[i] < 0
     ·simp [h0,c2,show ¬ 0≤a.At[i] by omega]
     ·by_cases h1:(f.Fields.length:Int)≤a.At[i]
      ·simp [h0,h1,show ¬ a.At[i] < (f.Fields.length:Int) by omega]
      ·obtain ⟨j,hj⟩:∃ j:Nat,a.At[i]=(j:Int):=⟨a.At[i].toNat,by omega⟩
       have hjl:j < f.Fields.length:=by omega
       rw [hj]
       rw [hj] at h0 h1
       simp only [h0,h1,c2,decide_false,Bool.false_eq_true,if_false,Option.bind_some,an hjl,an hc,lS,Option.some.injEq]
       by_cases he:f.Fields[j]=a.Consts[i] <;> simp [he,hjl]
    ·have c2:decide ((a.Consts.length:Int)≤(i:Int))=true:=decide_eq_true (by omega)
     rw [List.drop_of_length_le (show a.Consts.length≤i by omega),jN]
     by_cases h0:a.At[i] < 0
     ·simp [h0,c2]
     ·by_cases h1:(f.Fields.length:Int)≤a.At[i] <;> simp [h0,h1,show a.Consts.length≤i by omega]
   ·have c1:decide ((i:Int) < (a.At.length:Int))=false:=decide_eq_false (by omega)
    rw [List.drop_of_length_le (show a.At.length≤i by omega)]
    simp only [c1,Bool.false_eq_true,if_false,jN]
 have l0:=lp N 0 (by omega) (by omega)
 rw [List.drop_zero,List.drop_zero,show ((0:Nat):Int)=0 from rfl] at l0
 unfold rz jJ
 rw [l0]
 cases seq f.Kind a.Kind <;> by_cases hl:(f.Fields.length:Int)=a.N <;> simp [hl]
theorem xb (f:Nat→Int→Option Bool) (n0:Nat) (hm:n0≤4611686018427387903) (e:Nat→Bool) (z:Bool)
  (h:∀ k (i:Nat),i < n0→f (k+1) i=if e i then f k (IntKind.i64.wrap ((i:Int)+1)) else some false) (hz:∀ k (i:Nat),i=n0→f (k+1) i=some z) :
  ∀ (n i:Nat),i≤n0→n0 - i < n→f n i=some (((List.range n0).drop i).all e && z):=by
 intro n
 induction n with
 | zero=>intro i _ h; omega
 | succ n ih=>
  intro i hi hn
  by_cases hlt:i < n0
  ·rw [h n i hlt,List.drop_eq_getElem_cons (by simpa using hlt),List.getElem_range,List.all_cons]
   cases he:e i with
   | false=>simp
   | true=>simp only [if_true,Bool.true_and]; rw [wr1 i (by omega),ih (i+1) (by omega) (by omega)]
  ·have:i=n0:=by omega
   rw [hz n i this,List.drop_of_length_le (by simp; omega)]
   simp
theorem in0 (N:Nat) (a b c:Int):dB N a b c=some (decide (b≤a) && decide (a≤c)):=by
 unfold dB
 by_cases h:b≤a <;> simp [h]
theorem in1 (N:Nat) (a b c:Int):cI N a b c=some (decide (b≤a) && decide (a≤c)):=by
 unfold cI
 by_cases h:b≤a <;> simp [h]
theorem wrU (y:UInt8):IntKind.i64.wrap (y.toNat:Int)=(y.toNat:Int):=wr (by omega) (by have:=y.toNat_lt; omega)
def jZ (y:UInt8):Bool:=(decide (97≤(y.toNat:Int)) && decide ((y.toNat:Int)≤122)) || (decide (48≤(y.toNat:Int)) && decide ((y.toNat:Int)≤57)) || decide ((y.toNat:Int)=95)
theorem Aw (N:Nat) (y:UInt8):iP N (y.toNat:Int)=some (jZ y):=by
 unfold iP jZ
 simp only [wrU,in0,Option.bind_some]
 by_cases h1:(decide (97≤(y.toNat:Int)) && decide ((y.toNat:Int)≤122))=true
 ·simp [h1]
 ·rw [if_neg h1]
  simp only [Option.bind_some]
  rw [Bool.eq_false_iff.2 h1,Bool.false_or]
  by_cases h2:(decide (48≤(y.toNat:Int)) && decide ((y.toNat:Int)≤57))=true
  ·simp [h2]
  ·rw [if_neg h2,Bool.eq_false_iff.2 h2,Bool.false_or]; rfl
theorem Gc (N:Nat) (y:UInt8):iw N (y.toNat:Int)=some (jZ y):=by
 unfold iw km sy jZ
 generalize (y.toNat:Int)=n
 rw [oA,oA,Option.bind_some,Option.bind_some,Option.bind_some,Option.bind_some,orS,Option.bind_some,orS]
 rfl
def vB (y:UInt8):Bool:=decide (97≤(y.toNat:Int)) && decide ((y.toNat:Int)≤122)
def pN (s:ByteArray):Bool:=((List.range s.size).drop 0).all (fun i=>match s.data.toList[i]? with | some y=>jZ y | none=>false)
theorem o3 (s:ByteArray):s.data.toList.length=s.size:=rfl
theorem Ke {N:Nat} (hN:1048578≤N) (s:ByteArray) (hs:s.size≤1048576):pf N s=some (pN s && decide ((s.size:Int)≤20)):=by
 unfold pf
 refine xb (fun n i=>fd N s n i) s.size (by omega) _ _ (fun k i hi=>?_) (fun k i hi=>?_) N 0 (by omega) (by omega)
 ·have hi':i < s.data.toList.length:=by rw [o3]; exact hi
  simp only [fd,an hi',Option.bind_some,Aw,List.getElem?_eq_getElem hi']
  rw [if_pos (by simp; omega)]
  cases jZ s.data.toList[i] <;> simp
 ·simp only [fd]
  rw [if_neg (by simp; omega)]
theorem GA {N:Nat} (hN:1048578≤N) (s:ByteArray) (n:Int) (hs:s.size≤1048576):nM N s n=some (pN s && decide ((s.size:Int)≤n)):=by
 unfold nM
 have:eI N s N 0=some (pN s && true):=by
  refine xb (fun n i=>eI N s n i) s.size (by omega) _ _ (fun k i hi=>?_) (fun k i hi=>?_) N 0 (by omega) (by omega)
  ·have hi':i < s.data.toList.length:=by rw [o3]; exact hi
   simp only [eI,an hi',Option.bind_some,Gc,List.getElem?_eq_getElem hi']
   rw [if_pos (by simp; omega)]
   cases jZ s.data.toList[i] <;> simp
  ·simp only [eI]
   rw [if_neg (by simp; omega)]
 rw [this]
 by_cases h:n < (s.size:Int)
 ·rw [if_pos (by simpa using h),decide_eq_false (by omega),Bool.and_false]
 ·rw [if_neg (by simpa using h),decide_eq_true (show (s.size:Int)≤n by omega)]
theorem LY {N:Nat} (hN:1048578≤N) (s:ByteArray) (hs:s.size≤1048576):gr N s=some ((match s.data.toList[0]? with | some y=>vB y | none=>false) && (pN s && decide ((s.size:Int)≤12))):=by
 unfold gr
 rw [GA hN s 12 hs]
 by_cases h:0 < s.size
 ·have hi':0 < s.data.toList.length:=by rw [o3]; exact h
  have hidx:idx s.data.toList 0=some s.data.toList[0]:=by simpa using an (i:=0) hi'
  rw [if_pos (by simpa using h),hidx,List.getElem?_eq_getElem hi']
  have:km N (s.data.toList[0].toNat:Int)=some (vB s.data.toList[0]):=by
   unfold km vB
   generalize (s.data.toList[0].toNat:Int)=n
   by_cases h1:97≤n <;> simp [h1]
  simp only [Option.bind_some,this]
  cases vB s.data.toList[0] <;> simp
 ·rw [if_neg (by simpa using h),List.getElem?_eq_none (by rw [o3]; omega)]
  rfl
theorem N1 {N:Nat} (hN:1048578≤N) (s:ByteArray) (hs:s.size≤1048576):eE N s=some ((match s.data.toList[0]? with | some y=>vB y | none=>false) && (pN s && decide ((s.size:Int)≤12))):=by
 unfold eE
 have:=xb (fun n i=>eU N s n i) s.size (by omega) (fun i=>match s.data.toList[i]? with | some y=>jZ y && (decide (¬ i=0) || vB y) | none=>false) (decide (1≤(s.size:Int)) && decide ((s.size:Int)≤12)) (fun k i hi=>by
  have hi':i < s.data.toList.length:=by rw [o3]; exact hi
  simp only [eU,an hi',Option.bind_some,Aw,List.getElem?_eq_getElem hi',wrU,in0]
  rw [if_pos (by simp; omega)]
  have h0:decide ((i:Int)=0)=decide (i=0):=by rw [decide_eq_decide]; omega
  rw [h0]
  unfold vB
  simp only [oA,orS,Option.bind_some]
  generalize jZ s.data.toList[i]=a
  generalize (decide (97≤(s.data.toList[i].toNat:Int)) && decide ((s.data.toList[i].toNat:Int)≤122))=b
  cases a <;> cases b <;> by_cases hz:i=0 <;> simp [hz]) (fun k i hi=>by
  simp only [eU,in0,Option.bind_some]
  rw [if_neg (by simp; omega)]) N 0 (by omega) (by omega)
 rw [show eU N s N 0=_ from this]
 congr 1
 unfold pN
 simp only [List.drop_zero]
 cases hsz:s.size with
 | zero=>
  rw [List.getElem?_eq_none (by rw [o3]; omega)]
  simp
 | succ n=>
  have hi':0 < s.data.toList.length:=by rw [o3]; omega
  rw [List.getElem?_eq_getElem hi',List.range_succ_eq_map]
  simp only [List.all_cons,List.getElem?_eq_getElem hi',List.all_map,Function.comp_def,Nat.succ_eq_add_one]
  have:∀ i,(match s.data.toList[i+1]? with | some y=>jZ y && (decide (¬ i+1=0) || vB y) | none=>false)=(match s.data.toList[i+1]? with | some y=>jZ y | none=>false):=by
   intro i; cases s.data.toList[i+1]? <;> simp
  simp only [this]
  have h1:decide (1≤((n+1:Nat):Int))=true:=by simp; omega
  simp only [h1,Bool.true_and,not_true,decide_false,Bool.false_or]
  cases jZ s.data.toList[0] <;> cases vB s.data.toList[0] <;> simp
theorem Ld {N:Nat} (hN:1048578≤N) (v:aL) (hs:v.S.size≤1048576):ql N v=lL N v:=by
 unfold ql lL
 rw [Ke hN _ hs,GA hN _ _ hs,in0,in1]
 by_cases h1:v.K=1
 ·simp [h1]
 ·by_cases h2:v.K=2
  ·simp only [h2,oA,orS,Option.bind_some]
   cases decide (v.N=0) <;> cases pN v.S <;> cases decide ((v.S.size:Int)≤20) <;> rfl
  ·simp [h1,h2]
def vu (v:aL):Bool:=if v.K=1 then (decide (-1000000000≤v.N) && decide (v.N≤1000000000)) && seq v.S ⟨#[]⟩ else if v.K=2 then decide (v.N=0) && (pN v.S && decide ((v.S.size:Int)≤20)) else false
theorem HK {N:Nat} (hN:1048578≤N) (v:aL) (hs:v.S.size≤1048576):lL N v=some (vu v):=by
 unfold lL vu
 rw [GA hN _ _ hs,in1]
 by_cases h1:v.K=1
 ·simp only [h1,decide_true,if_true,Option.bind_some]
  cases (decide (-1000000000≤v.N) && decide (v.N≤1000000000)) <;> simp
 ·by_cases h2:v.K=2
  ·by_cases h3:v.N=0 <;> simp [h2,h3]
  ·simp [h1,h2]
def u6 (y:UInt8):Bool:=decide (65≤(y.toNat:Int)) && decide ((y.toNat:Int)≤90)
theorem Hz (N:Nat) (y:UInt8):mj N (y.toNat:Int)=some (u6 y):=by
 unfold mj u6; cases decide (65≤(y.toNat:Int)) <;> rfl
theorem Hu (N:Nat) (y:UInt8):ox N (y.toNat:Int)=some (u6 y):=by
 unfold ox u6; rw [wrU,in0]; rfl
def FC (s:ByteArray):Bool:=match s.data.toList with
 | []=>false
 | b :: t=>u6 b && (t.all (fun y=>jZ y || u6 y) && decide ((s.size:Int)≤12))
theorem Ou {N:Nat} (hN:1399000000000≤N) (s:ByteArray) (hs:s.size≤1048576):sZ N s=some (FC s):=by
 have hsz:s.size=s.data.toList.length:=rfl
 have lp:=z6 (gU N s) s.data.toList (by omega) (fun y=>jZ y || u6 y) true 0 (fun n i y _ hx _ hc hw=>by
  rw [← hsz] at hc
  simp only [gU,hc,if_true,hx,Option.bind_some,Gc,Hz,hw]
  cases jZ y <;> cases u6 y <;> rfl) (fun n i hc=>by rw [← hsz] at hc; simp only [gU,hc,Bool.false_eq_true,if_false])
 unfold sZ FC
 cases hd:s.data.toList with
 | nil=>
  have:s.size=0:=by rw [hsz,hd]; rfl
  rw [this]; rfl
 | cons b t=>
  have h1:s.size=t.length+1:=by rw [hsz,hd]; rfl
  have c1:decide ((s.size:Int) < 1)=false:=decide_eq_false (by omega)
  have:=lp N 0 (by omega) (by omega) (by omega)
  rw [hd] at this
  have hi:idx (b :: t) 0=some b:=rfl
  simp only [c1,Bool.false_eq_true,if_false,Option.bind_some,hi,Hz]
  by_cases c2:(s.size:Int)≤12
  ·have c3:decide (12 < (s.size:Int))=false:=decide_eq_false (by omega)
   simp only [c2,c3,decide_true,Bool.and_true,Bool.false_eq_true,if_false,Option.bind_some]
   cases hb:u6 b with
   | false=>rfl
   | true=>
    simp only [Bool.not_true,Bool.false_eq_true,if_false,Bool.true_and]
    refine this.trans ?_
    simp [hb]
  ·have c3:decide (12 < (s.size:Int))=true:=decide_eq_true (by omega)
   simp only [c2,c3,decide_false,Bool.and_false,if_true,Option.bind_some]
theorem Of {N:Nat} (hN:1399000000000≤N) (s:ByteArray) (hs:s.size≤1048576):ow N s=some (FC s):=by
 have hsz:s.size=s.data.toList.length:=rfl
 have lp:=z6 (dj N s) s.data.toList (by omega) (fun y=>jZ y || u6 y) (decide (1≤(s.size:Int)) && decide ((s.size:Int)≤12)) 1 (fun n i y h1 hx _ hc hw=>by
  rw [← hsz] at hc
  have h0:decide ((i:Int)=0)=false:=decide_eq_false (by omega)
  simp only [dj,hc,if_true,hx,Option.bind_some,Aw,Hu,hw,h0,Bool.false_eq_true,if_false]
  cases jZ y <;> cases u6 y <;> rfl) (fun n i hc=>by rw [← hsz] at hc; simp only [dj,hc,Bool.false_eq_true,if_false,in0,Option.bind_some])
 unfold ow FC
 obtain ⟨n,rfl⟩:∃ n,N=n+1:=⟨N - 1,by omega⟩
 cases hd:s.data.toList with
 | nil=>
  have:s.size=0:=by rw [hsz,hd]; rfl
  simp only [dj,this,in0]; rfl
 | cons b t=>
  have h1:s.size=t.length+1:=by rw [hsz,hd]; rfl
  have c1:decide ((0:Int) < (s.size:Int))=true:=decide_eq_true (by omega)
  have:=lp n 1 (by omega) (by omega) (by omega)
  rw [hd] at this
  have hi:idx (b :: t) 0=some b:=rfl
  simp only [dj,c1,if_true,hd,hi,Option.bind_some,Hu,decide_true]
  cases hb:u6 b with
  | false=>rfl
  | true=>
   simp only [Bool.not_true,Bool.false_eq_true,if_false,Option.bind_some,Bool.true_and]
   rw [show IntKind.i64.wrap ((0:Int)+1)=((1:Nat):Int) from wr1 0 (by omega)]
   refine this.trans ?_
   simp [show (1:Int)≤(s.size:Int) by omega]
def vr (a:be):Prop:=a.S.size≤1048576∧a.V.S.size≤1048576
def sW (a:be):Bool:=if a.K=1 then FC a.S && bp a.V ⟨0,0,⟨#[]⟩⟩ else if a.K=2 then vu a.V && seq a.S ⟨#[]⟩ else if a.K=3 then seq a.S ⟨#[]⟩ && bp a.V ⟨0,0,⟨#[]⟩⟩ else false
theorem HH {N:Nat} (hN:1399000000000≤N) (a:be) (h:vr a):mg N a=some (sW a):=by
 unfold mg sW
 rw [Of hN _ h.1,Ld (by omega) _ h.2,HK (by omega) _ h.2]
 simp only [Option.bind_some,oA,decide_eq_true_eq]
 split <;> (try split) <;> (try split) <;> rfl
theorem Li {N:Nat} (hN:1399000000000≤N) (a:be) (h:vr a):qv N a=some (sW a):=by
 unfold qv sW
 rw [Ou hN _ h.1,HK (by omega) _ h.2]
 simp only [Option.bind_some,oA,decide_eq_true_eq,Bool.and_comm]
 split <;> (try split) <;> (try split) <;> simp [Bool.and_comm]
def vf (a:be):Bool:=sW a && !decide (a.K=3)
theorem HG {N:Nat} (hN:1399000000000≤N) (a:be) (h:vr a):jP N a=some (vf a):=by
 unfold jP vf; simp only [HH hN a h,Option.bind_some,oA]
theorem yU {N:Nat} (hN:1399000000000≤N) (a:be) (h:vr a):iX N a=some (vf a):=by
 unfold iX vf; simp only [Li hN a h,Option.bind_some,oA,Bool.and_comm]
def zt (e:bk):Prop:=e.Op.size≤1048576∧vr e.L∧vr e.R
def nj (e:bk):Bool:=if seq e.Op ⟨#[]⟩ then vf e.L && sc e.R ⟨0,⟨#[]⟩,⟨0,0,⟨#[]⟩⟩⟩ else (seq e.Op ⟨#[43]⟩ || seq e.Op ⟨#[45]⟩) && (vf e.L && vf e.R)
theorem Mq {N:Nat} (hN:1399000000000≤N) (e:bk) (h:zt e):ru N e=some (nj e):=by
 unfold ru jo nj
 simp only [HG hN _ h.2.1,HG hN _ h.2.2,Option.bind_some,oA]
 cases seq e.Op ⟨#[]⟩ <;> cases seq e.Op ⟨#[43]⟩ <;> cases seq e.Op ⟨#[45]⟩ <;> rfl
theorem Nl {N:Nat} (hN:1399000000000≤N) (e:bk) (h:zt e):qF N e=some (nj e):=by
 unfold qF jh nj
 simp only [yU hN _ h.2.1,yU hN _ h.2.2,Option.bind_some,oA]
 cases seq e.Op ⟨#[]⟩ <;> cases seq e.Op ⟨#[43]⟩ <;> cases seq e.Op ⟨#[45]⟩ <;> rfl
def gD (s:ByteArray):Bool:=(match s.data.toList[0]? with | some y=>vB y | none=>false) && (pN s && decide ((s.size:Int)≤12))
theorem tt {N:Nat} (hN:1399000000000≤N) (s:ByteArray) (hs:s.size≤1048576):eE N s=some (gD s):=N1 (by omega) s hs
theorem tu {N:Nat} (hN:1399000000000≤N) (s:ByteArray) (hs:s.size≤1048576):gr N s=some (gD s):=LY (by omega) s hs
def Dm (a:bM):Prop:=a.Name.size≤1048576∧a.Undo.size≤1048576∧a.Args.length≤1048576∧∀ e∈a.Args,zt e
theorem LA {N:Nat} (hN:1399000000000≤N) (xs:List bk) (hl:xs.length≤1048576) (h:∀ e∈xs,zt e):lz N xs=some (xs.all nj && decide ((xs.length:Int)≤5)):=by
 unfold lz
 have:=z6 (fY N xs) xs (by omega) nj (decide ((xs.length:Int)≤5)) 0 (fun n i y _ hx hm hc hw=>by
  simp only [fY,hc,if_true,hx,Option.bind_some,Mq hN y (h y hm),hw]; cases nj y <;> rfl) (fun n i hc=>by simp only [fY,hc,Bool.false_eq_true,if_false]) N 0 (by omega) (by omega) (by omega)
 simpa using this
theorem Ni {N:Nat} (hN:1399000000000≤N) (a:bM) (h:Dm a):lG N a=some (gD a.Name && (a.Args.all nj && decide ((a.Args.length:Int)≤5))):=by
 obtain ⟨h1,h2,h3,h4⟩:=h
 unfold lG
 have:=z6 (eJ N a) a.Args (by omega) nj true 0 (fun n i y _ hx hm hc hw=>by
  simp only [eJ,hc,if_true,hx,Option.bind_some,Nl hN y (h4 y hm),hw]; cases nj y <;> rfl) (fun n i hc=>by simp only [eJ,hc,Bool.false_eq_true,if_false]) N 0 (by omega) (by omega) (by omega)
 have this':eJ N a N 0=some (a.Args.all nj):=by simpa using this
 simp only [tu hN _ h1,Option.bind_some,this']
 cases gD a.Name with
 | false=>rfl
 | true=>
  by_cases c:(a.Args.length:Int)≤5
  ·have c':decide (5 < (a.Args.length:Int))=false:=decide_eq_false (by omega)
   simp only [c,c',decide_true,Bool.and_true,Bool.true_and,Bool.not_true,Bool.false_eq_true,if_false,Option.bind_some]
  ·have c':decide (5 < (a.Args.length:Int))=true:=decide_eq_true (by omega)
   simp only [c,c',decide_false,Bool.and_false,Bool.not_true,Bool.false_eq_true,if_false,if_true,Option.bind_some]
def ub (a:bM):Bool:=
 let na:=gD a.Name && (a.Args.all nj && decide ((a.Args.length:Int)≤5))
 let bare:=seq a.Name ⟨#[]⟩ && decide ((a.Args.length:Int)=0)
 if a.Kind=1 then na && decide (a.N=0) && seq a.Undo ⟨#[]⟩
 else if a.Kind=2 then bare && (decide (0≤a.N) && decide (a.N≤7)) && seq a.Undo ⟨#[]⟩
 else if a.Kind=3 then na && decide (a.N=0) && (seq a.Undo ⟨#[]⟩ || gD a.Undo)
 else if a.Kind=4 then na && (decide (0≤a.N) && decide (a.N≤100000)) && seq a.Undo ⟨#[]⟩
 else if a.Kind=5∨a.Kind=6 then bare && decide (a.N=0) && seq a.Undo ⟨#[]⟩
 else false
theorem Ny {N:Nat} (hN:1399000000000≤N) (a:bM) (h:Dm a):tG N a=some (ub a):=by
 obtain ⟨h1,h2,h3,h4⟩:=h
 unfold tG kz ub
 simp only [LA hN _ h3 h4,tt hN _ h1,tt hN _ h2,in0,Option.bind_some,oA,orS,decide_eq_true_eq]
 generalize gD a.Name=n; generalize a.Args.all nj=e; generalize gD a.Undo=u; generalize seq a.Name ⟨#[]⟩=sn; generalize seq a.Undo ⟨#[]⟩=su
 by_cases k1:a.Kind=1
 ·simp [k1] <;> (cases n <;> cases e <;> simp)
 by_cases k3:a.Kind=3
 ·simp [k3] <;> (cases n <;> cases e <;> simp)
 by_cases k4:a.Kind=4
 ·simp [k4] <;> (cases n <;> cases e <;> simp)
 by_cases k2:a.Kind=2
 ·simp [k2] <;> (cases sn <;> cases su <;> simp)
 by_cases k5:a.Kind=5
 ·simp [k5] <;> (cases sn <;> cases su <;> simp)
 ·by_cases k6:a.Kind=6
  ·simp [k6] <;> (cases sn <;> cases su <;> simp)
  ·simp [k1,k2,k3,k4,k5,k6]
theorem NS {N:Nat} (hN:1399000000000≤N) (a:bM) (h:Dm a):t8 N a=some (ub a):=by
 have hi:=Ni hN a h
 obtain ⟨h1,h2,h3,h4⟩:=h
 unfold t8 kx tR ub
 simp only [hi,tu hN _ h2,in1,Option.bind_some,oA,orS,decide_eq_true_eq]
 generalize gD a.Name=n; generalize a.Args.all nj=e; generalize gD a.Undo=u; generalize seq a.Name ⟨#[]⟩=sn; generalize seq a.Undo ⟨#[]⟩=su
 by_cases k1:a.Kind=1
 ·simp [k1] <;> (cases n <;> cases e <;> simp)
 by_cases k3:a.Kind=3
 ·simp [k3] <;> (cases n <;> cases e <;> simp)
 by_cases k4:a.Kind=4
 ·simp [k4] <;> (cases n <;> cases e <;> simp)
 by_cases k2:a.Kind=2
 ·simp [k2] <;> (cases sn <;> cases su <;> simp)
 by_cases k5:a.Kind=5
 ·simp [k5] <;> (cases sn <;> cases su <;> simp)
 ·by_cases k6:a.Kind=6
  ·simp [k6] <;> (cases sn <;> cases su <;> simp)
  ·simp [k1,k2,k3,k4,k5,k6]
def Df (p:av):Prop:=p.Kind.size≤1048576∧p.Args.length≤1048576∧∀ a∈p.Args,vr a
def pJ (p:av):Bool:=gD p.Kind && (decide ((p.Args.length:Int)≤5) && p.Args.all sW)
theorem Oi {N:Nat} (hN:1399000000000≤N) (p:av) (h:Df p):tn N p=some (pJ p):=by
 obtain ⟨h1,h2,h3⟩:=h
 have lp:=lp0 hN p.Args (by omega) (gW N p) (fun t=>some (t.all sW)) (fun n i x t g1 g2 g3 g4 g5 g6 g7=>by
  simp only [gW,g5,if_true,g4,Option.bind_some,Li hN x (h3 x g2),g6,g7,List.all_cons]; cases sW x <;> rfl) (fun n i g1 g2=>by simp only [gW,g2,Bool.false_eq_true,if_false]; rfl)
 unfold tn pJ
 simp only [tu hN _ h1,Option.bind_some,lp]
 by_cases c:(p.Args.length:Int)≤5
 ·have c':decide (5 < (p.Args.length:Int))=false:=decide_eq_false (by omega)
  simp only [c,c',decide_true]; cases gD p.Kind <;> simp
 ·have c':decide (5 < (p.Args.length:Int))=true:=decide_eq_true (by omega)
  simp only [c,c',decide_false]; cases gD p.Kind <;> simp
theorem NW {N:Nat} (hN:1399000000000≤N) (p:av) (h:Df p):tz N p=some (pJ p):=by
 obtain ⟨h1,h2,h3⟩:=h
 have lp:=lp0 hN p.Args (by omega) (gT N p) (fun t=>some (t.all sW && (gD p.Kind && decide ((p.Args.length:Int)≤5)))) (fun n i x t g1 g2 g3 g4 g5 g6 g7=>by
  simp only [gT,g5,if_true,g4,Option.bind_some,HH hN x (h3 x g2),g6,g7,List.all_cons]; cases sW x <;> simp) (fun n i g1 g2=>by
  simp only [gT,g2,Bool.false_eq_true,if_false,tt hN _ h1,Option.bind_some,oA,List.all_nil,Bool.true_and])
 unfold tz pJ
 rw [lp]
 generalize gD p.Kind=a; generalize p.Args.all sW=b; generalize decide ((p.Args.length:Int)≤5)=c
 cases a <;> cases b <;> cases c <;> rfl
def Ac (c:bn):Prop:=vr c.L∧vr c.R
def sG (c:bn):Bool:=(decide (1≤c.Op) && decide (c.Op≤3)) && (vf c.L && vf c.R)
theorem Ml {N:Nat} (hN:1399000000000≤N) (c:bn) (h:Ac c):rA N c=some (sG c):=by
 unfold rA sG
 simp only [in1,yU hN _ h.1,yU hN _ h.2,Option.bind_some,oA,Bool.and_assoc]
theorem Mr {N:Nat} (hN:1399000000000≤N) (c:bn) (h:Ac c):qI N c=some (sG c):=by
 unfold qI sG vf
 simp only [in0,HH hN _ h.1,HH hN _ h.2,Option.bind_some,oA]
 generalize sW c.L=a; generalize sW c.R=b; generalize (decide (c.L.K=3))=d; generalize (decide (c.R.K=3))=e; generalize (decide (1≤c.Op) && decide (c.Op≤3))=f
 cases a <;> cases b <;> cases d <;> cases e <;> cases f <;> rfl
instance OD (v:ByteArray) (xs:List ByteArray):Decidable (v∈xs):=@List.instDecidableMemOfLawfulBEq _ instBEqOfDecidableEq _ v xs
theorem ML {N:Nat} (hN:1399000000000≤N) (xs:List ByteArray) (v:ByteArray) (hl:xs.length≤1099511627776):o8 N xs v=some (decide (v∈xs)):=by
 unfold o8
 refine lp0 hN xs hl _ (fun t=>some (decide (v∈t))) (fun n i x t h1 h2 h3 h4 h5 h6 h7=>?_) (fun n i h1 h2=>?_)
 ·simp only [iR,h5,if_true,h4,Option.bind_some,h6,h7,dA]
  by_cases h:x=v
  ·simp [h]
  ·have h' : ¬ v=x:=fun e=>h e.symm
   simp [h,h']
 ·simp only [iR,h2,Bool.false_eq_true,if_false]; simp
def dd (s:List ByteArray) (v:ByteArray):List ByteArray:=if v∈s then s else s++[v]
theorem wA (s:List ByteArray) (v:ByteArray):(dd s v).length≤s.length+1:=by unfold dd; split <;> simp
theorem Jw {s:List ByteArray} {v x:ByteArray}:x∈dd s v↔x∈s∨x=v:=by
 unfold dd; split
 ·rename_i h
  constructor
  ·exact .inl
  ·rintro (h' | rfl)
   ·exact h'
   ·exact h
 ·simp
theorem xc {x:ByteArray}:∀ {vs s:List ByteArray},x∈vs.foldl dd s↔x∈s∨x∈vs
 | [],s=>by simp
 | v :: vs,s=>by rw [List.foldl_cons,xc,Jw,List.mem_cons,or_assoc]
theorem Gj {s:List ByteArray} {v:ByteArray} (h:v∈s):dd s v=s:=by unfold dd; rw [if_pos h]
theorem nE:∀ (vs s:List ByteArray),(vs.foldl dd s).length≤s.length+vs.length
 | [],s=>by simp
 | v :: vs,s=>by have:=nE vs (dd s v); have:=wA s v; simp only [List.foldl_cons,List.length_cons]; omega
theorem Gz (s u:List ByteArray) (v:ByteArray):(dd u v).foldl dd s=dd (u.foldl dd s) v:=by
 by_cases h:v∈u
 ·rw [Gj h,Gj (xc.2 (.inr h))]
 ·have:dd u v=u++[v]:=by unfold dd; rw [if_neg h]
  rw [this,List.foldl_append]; rfl
theorem xT:∀ (vs u s:List ByteArray),(vs.foldl dd u).foldl dd s=vs.foldl dd (u.foldl dd s)
 | [],u,s=>rfl
 | v :: vs,u,s=>by rw [List.foldl_cons,xT vs (dd u v) s,Gz,List.foldl_cons]
theorem Fy (vs s:List ByteArray):(vs.foldl dd []).foldl dd s=vs.foldl dd s:=xT vs [] s
def cz:List be→List ByteArray
 | []=>[]
 | a :: t=>if a.K=1 then a.S :: cz t else cz t
theorem iE:∀ (l:List be),(cz l).length≤l.length
 | []=>by simp [cz]
 | a :: t=>by have:=iE t; unfold cz; split <;> simp <;> omega
theorem uR {x:ByteArray}:∀ {l:List be},x∈cz l↔∃ a∈l,a.K=1∧a.S=x
 | []=>by simp [cz]
 | a :: t=>by
  unfold cz
  split
  ·rename_i h; simp [uR,h,eq_comm]
  ·rename_i h; simp [uR,h]
theorem LL {N:Nat} (hN:1399000000000≤N) (p:av) (hl:p.Args.length≤1048576):rT N p=some ((cz p.Args).foldl dd []):=by
 unfold rT
 refine lp' hN p.Args (by omega) (fV N p) (fun t s=>some ((cz t).foldl dd s)) (fun s t=>s.length+t.length≤4294967290) [] (by simp; omega) (fun n s i x t h1 h2 h3 h4 h5 h6 hI ih=>?_) (fun n s i h1 h2 hI=>?_)
 ·simp only [List.length_cons] at hI
  simp only [fV,h5,if_true,h4,Option.bind_some,h6,cz,ML hN s x.S (by omega)]
  by_cases h:x.K=1
  ·simp only [h,decide_true,if_true,Option.bind_some,List.foldl_cons]
   have:=ih (dd s x.S) (by have:=wA s x.S; omega)
   unfold dd at this ⊢
   by_cases hm:x.S∈s
   ·simp only [hm,if_true] at this
    simpa [hm] using this
   ·simp only [hm,if_false] at this
    simp only [hm,decide_false,Bool.not_false,if_true,bS (show s.length+[x.S].length≤1099511627776 by simp; omega),Option.bind_some,if_false]
    exact this
  ·simp only [h,decide_false,Bool.false_eq_true,if_false,Option.bind_some]
   exact ih _ (by omega)
 ·simp only [fV,h2,Bool.false_eq_true,if_false]; rfl
def fK:List av→List ByteArray
 | []=>[]
 | p :: t=>if p.Not then fK t else cz p.Args++fK t
def kK (l:List av):Nat:=(l.map fun p=>p.Args.length).sum
theorem vY:∀ (l:List av),(fK l).length≤kK l
 | []=>by simp [fK,kK]
 | p :: t=>by
  have h1:=vY t
  have h2:=iE p.Args
  have h3:kK (p :: t)=p.Args.length+kK t:=by simp [kK]
  rw [h3]
  unfold fK
  split
  ·omega
  ·rw [List.length_append]; omega
theorem HT {N:Nat} (hN:1399000000000≤N) (r:ag) (hl:r.Pats.length≤1048576) (ha:kK r.Pats≤1048576) (hp:∀ p∈r.Pats,p.Args.length≤1048576):m8 N r=some ((fK r.Pats).foldl dd []):=by
 unfold m8
 refine lp' hN r.Pats (by omega) (cF N r) (fun t s=>some ((fK t).foldl dd s)) (fun s t=>s.length+kK t≤4294967290) [] (by simp; omega) (fun n s i x t h1 h2 h3 h4 h5 h6 hI ih=>?_) (fun n s i h1 h2 hI=>?_)
 ·have hI':s.length+(x.Args.length+kK t)≤4294967290:=by simpa [kK] using hI
  have hpx:=hp x h2
  simp only [cF,h5,if_true,h4,Option.bind_some,LL hN x hpx,fK]
  have hvl:=nE (cz x.Args) []
  have hal:=iE x.Args
  simp only [List.length_nil,Nat.zero_add] at hvl
  have key:cB N r i (cF N r n) ((cz x.Args).foldl dd []) N s 0=if x.Not then some ((fK t).foldl dd s) else some ((fK t).foldl dd (((cz x.Args).foldl dd []).foldl dd s)):=by
   cases hx:x.Not with
   | true=>
    obtain ⟨m,rfl⟩:∃ m,N=m+1:=⟨N - 1,by omega⟩
    have ih0:=ih s (by omega)
    simp only [cB,h4,Option.bind_some,hx,Bool.not_true,h6,ih0]
    split <;> rfl
   | false=>
    refine lp' hN ((cz x.Args).foldl dd []) (by omega) (cB N r i (cF N r n) ((cz x.Args).foldl dd [])) (fun u s=>some ((fK t).foldl dd (u.foldl dd s))) (fun s u=>s.length+u.length+kK t≤4294967290) s (by omega) (fun n' s' i' y u g1 g2 g3 g4 g5 g6 gI gih=>?_) (fun n' s' i' g1 g2 gI=>?_)
    ·simp only [List.length_cons] at gI
     simp only [cB,g5,if_true,h4,Option.bind_some,hx,Bool.not_false,g4,ML hN s' y (by omega),List.foldl_cons,g6]
     have:=gih (dd s' y) (by have:=wA s' y; omega)
     unfold dd at this ⊢
     by_cases hm:y∈s'
     ·simp only [hm,if_true] at this
      simpa [hm] using this
     ·simp only [hm,if_false] at this
      simp only [hm,decide_false,Bool.not_false,if_true,bS (show s'.length+[y].length≤1099511627776 by simp; omega),Option.bind_some,if_false]
      exact this
    ·simp only [cB,g2,Bool.false_eq_true,if_false,Option.bind_some,h6]
     exact ih s' (by simp at gI; omega)
  rw [show (cB N r i (cF N r n) ((cz x.Args).foldl dd []) N s 0)=_ from key]
  cases hx:x.Not with
  | true=>simp
  | false=>simp [List.foldl_append,Fy]
 ·simp only [cF,h2,Bool.false_eq_true,if_false]; rfl
def iy (r:ag):List ByteArray:=(fK r.Pats).foldl dd []
theorem Dh {r:ag} (h:kK r.Pats≤1048576):(iy r).length≤1048576:=by
 have h1:=nE (fK r.Pats) []
 have h2:=vY r.Pats
 unfold iy; simp at h1; omega
theorem NN {N:Nat} (hN:1399000000000≤N) (xs:List ByteArray) (v:ByteArray) (hl:xs.length≤1099511627776):∃ r,cX N xs v=some r∧decide (0≤r)=decide (v∈xs):=by
 unfold cX
 have:=zQ (bj N xs v) xs hl (fun x=>seq v x) (fun n i x hx _ hc hw=>by simp only [bj,hc,if_true,hx,Option.bind_some,hw]) (fun n i hc=>by simp only [bj,hc,Bool.false_eq_true,if_false]) N 0 (by omega) (by omega)
 rw [List.drop_zero,show ((0:Nat):Int)=0 from rfl] at this
 refine ⟨_,this,?_⟩
 rw [J6,Bool.eq_iff_iff,List.any_eq_true,decide_eq_true_eq]
 simp only [dA,decide_eq_true_eq]
 constructor
 ·rintro ⟨x,hx,rfl⟩; exact hx
 ·intro h; exact ⟨v,h,rfl⟩
theorem L5 {N:Nat} (hN:1399000000000≤N) (xs:List ByteArray) (v:ByteArray) (hl:xs.length≤1099511627776):bL N xs v=some (decide (v∈xs)):=by
 unfold bL
 obtain ⟨r,h1,h2⟩:=NN hN xs v hl
 rw [h1,Option.bind_some,h2]
theorem Kl {N:Nat} (hN:1399000000000≤N) (s:List ByteArray) (v:ByteArray) (hl:s.length≤4294967295):oB N s v=some (dd s v):=by
 unfold oB dd
 rw [L5 hN s v (by omega),Option.bind_some]
 by_cases h:v∈s
 ·simp [h]
 ·simp only [h,decide_false,Bool.false_eq_true,if_false,bS (show s.length+[v].length≤1099511627776 by simp; omega),Option.bind_some]
theorem xz {N:Nat} (hN:1399000000000≤N) (l:List be) (s:List ByteArray) (hl:s.length+l.length≤4294967290):kf N s l=some ((cz l).foldl dd s):=by
 unfold kf
 refine lp' hN l (by omega) (fc N l) (fun t s=>some ((cz t).foldl dd s)) (fun s t=>s.length+t.length≤4294967290) s hl (fun n s i x t h1 h2 h3 h4 h5 h6 hI ih=>?_) (fun n s i h1 h2 hI=>?_)
 ·simp only [List.length_cons] at hI
  simp only [fc,h5,if_true,h4,Option.bind_some,h6,cz,Kl hN s x.S (by omega)]
  by_cases h:x.K=1
  ·simp only [h,decide_true,if_true,List.foldl_cons]
   exact ih _ (by have:=wA s x.S; omega)
  ·simp only [h,decide_false,Bool.false_eq_true,if_false]
   exact ih _ (by omega)
 ·simp only [fc,h2,Bool.false_eq_true,if_false]; rfl
theorem Ip {N:Nat} (hN:1399000000000≤N) (r:ag) (hl:r.Pats.length≤1048576) (ha:kK r.Pats≤1048576):lV N r=some ((fK r.Pats).foldl dd []):=by
 unfold lV
 refine lp' hN r.Pats (by omega) (fk N r) (fun t s=>some ((fK t).foldl dd s)) (fun s t=>s.length+kK t≤4294967290) [] (by simp; omega) (fun n s i x t h1 h2 h3 h4 h5 h6 hI ih=>?_) (fun n s i h1 h2 hI=>?_)
 ·have hI':s.length+(x.Args.length+kK t)≤4294967290:=by simpa [kK] using hI
  simp only [fk,h5,if_true,h4,Option.bind_some,h6,fK,xz hN x.Args s (by omega)]
  cases hx:x.Not with
  | true=>simpa using ih s (by omega)
  | false=>
   have h1:=iE x.Args
   have h2:=nE (cz x.Args) s
   simpa [List.foldl_append] using ih _ (show ((cz x.Args).foldl dd s).length+kK t≤4294967290 by omega)
 ·simp only [fk,h2,Bool.false_eq_true,if_false]; rfl
def aj:List av→Nat
 | []=>0
 | p :: t=>if p.Not then aj t else aj t+1
theorem gX:∀ (l:List av),aj l≤l.length
 | []=>by simp [aj]
 | p :: t=>by have:=gX t; unfold aj; split <;> simp <;> omega
theorem Hv {N:Nat} (hN:1399000000000≤N) (r:ag) (hl:r.Pats.length≤1048576):kA N r=some (aj r.Pats:Int):=by
 unfold kA
 have:=lp' hN r.Pats (by omega) (du N r) (fun t s=>some (s+(aj t:Int))) (fun s t=>0≤s∧s+t.length≤1048576) (0:Int) (by simp; omega) (fun n s i x t h1 h2 h3 h4 h5 h6 hI ih=>by
  simp only [List.length_cons] at hI
  simp only [du,h5,if_true,h4,Option.bind_some,h6,aj]
  cases hx:x.Not with
  | true=>simpa using ih s (by omega)
  | false=>
   rw [wr (n:=s+1) (by omega) (by omega)]
   have:=ih (s+1) (by omega)
   simp only [Bool.not_false,if_true,this,Bool.false_eq_true,if_false]
   congr 1; omega) (fun n s i h1 h2 hI=>by simp only [du,h2,Bool.false_eq_true,if_false,aj]; simp)
 simpa using this
theorem Hl {N:Nat} (hN:1399000000000≤N) (r:ag) (hl:r.Pats.length≤1048576):iU N r=some (aj r.Pats:Int):=by
 unfold iU
 have:=lp' hN r.Pats (by omega) (dt N r) (fun t s=>some (s+(aj t:Int))) (fun s t=>0≤s∧s+t.length≤1048576) (0:Int) (by simp; omega) (fun n s i x t h1 h2 h3 h4 h5 h6 hI ih=>by
  simp only [List.length_cons] at hI
  simp only [dt,h5,if_true,h4,Option.bind_some,h6,aj]
  cases hx:x.Not with
  | true=>simpa using ih s (by omega)
  | false=>
   rw [wr (n:=s+1) (by omega) (by omega)]
   have:=ih (s+1) (by omega)
   simp only [Bool.not_false,if_true,this,Bool.false_eq_true,if_false]
   congr 1; omega) (fun n s i h1 h2 hI=>by simp only [dt,h2,Bool.false_eq_true,if_false,aj]; simp)
 simpa using this
def oy (vs:List ByteArray) (a:be):Bool:=!decide (a.K=1) || decide (a.S∈vs)
theorem HE {N:Nat} (hN:1399000000000≤N) (a:be) (vs:List ByteArray) (h:vs.length≤1099511627776):iG N a vs=some (oy vs a):=by
 unfold iG oy
 simp only [ML hN vs a.S h,Option.bind_some,OU]
def it (c:Nat):Nat→List av→Bool
 | _,[]=>true
 | i,p :: t=>pJ p && ((p.Not == decide (c≤i)) && it c (i+1) t)
def kQ (l:List av):Bool:=(decide (1≤l.length) && decide (l.length≤6)) && ((decide (1≤aj l) && decide (aj l≤3)) && it (aj l) 0 l)
theorem Nn {N:Nat} (hN:1399000000000≤N) (r:ag) (hl:r.Pats.length≤1048576) (hp:∀ p∈r.Pats,Df p):rP N r=some (kQ r.Pats):=by
 have hc:=Hl hN r hl
 have lp:∀ (n i:Nat),i≤r.Pats.length→r.Pats.length - i < n→eQ N r n i=some (it (aj r.Pats) i (r.Pats.drop i)):=by
  intro n
  induction n with
  | zero=>intro i _ h; omega
  | succ n ih=>
   intro i hi hn
   by_cases hlt:i < r.Pats.length
   ·have c1:decide ((i:Int) < (r.Pats.length:Int))=true:=decide_eq_true (by omega)
    rw [List.drop_eq_getElem_cons hlt]
    simp only [eQ,c1,if_true,an hlt,Option.bind_some,Oi hN _ (hp _ (List.getElem_mem hlt)),hc,wr1 i (by omega),ih (i+1) (by omega) (by omega),it]
    have hd:decide ((aj r.Pats:Int)≤(i:Int))=decide (aj r.Pats≤i):=by rw [decide_eq_decide]; omega
    rw [hd]
    cases pJ r.Pats[i] <;> cases r.Pats[i].Not <;> cases decide (aj r.Pats≤i) <;> rfl
   ·have c1:decide ((i:Int) < (r.Pats.length:Int))=false:=decide_eq_false (by omega)
    rw [List.drop_of_length_le (by omega)]
    simp only [eQ,c1,Bool.false_eq_true,if_false]; rfl
 have l0:=lp N 0 (by omega) (by omega)
 have h1:decide ((1:Int)≤(r.Pats.length:Int))=decide (1≤r.Pats.length):=by rw [decide_eq_decide]; omega
 have h2:decide ((r.Pats.length:Int)≤6)=decide (r.Pats.length≤6):=by rw [decide_eq_decide]; omega
 have h3:decide ((1:Int)≤(aj r.Pats:Int))=decide (1≤aj r.Pats):=by rw [decide_eq_decide]; omega
 have h4:decide ((aj r.Pats:Int)≤3)=decide (aj r.Pats≤3):=by rw [decide_eq_decide]; omega
 unfold rP kQ
 simp only [in1,Option.bind_some,hc,h1,h2,h3,h4]
 rw [show eQ N r N 0=_ from l0,List.drop_zero]
 cases (decide (1≤r.Pats.length) && decide (r.Pats.length≤6)) <;> cases (decide (1≤aj r.Pats) && decide (aj r.Pats≤3)) <;> rfl
def wx:Nat→Bool→List av→Bool
 | _,_,[]=>true
 | i,b,p :: t=>!(decide (2 < i) && !p.Not) && (pJ p && (!(decide (i=0) && p.Not) && (!((decide (0 < i) && b) && !p.Not) && wx (i+1) p.Not t)))
theorem J4:∀ (l:List av) (i:Nat),0 < i→wx i true l=(l.all pJ && l.all fun p=>p.Not)
 | [],i,h=>rfl
 | p :: t,i,h=>by
  have h1:decide (i=0)=false:=decide_eq_false (by omega)
  have h2:decide (0 < i)=true:=decide_eq_true h
  unfold wx
  simp only [h1,h2,Bool.false_and,Bool.not_false,Bool.true_and,List.all_cons]
  cases hp:p.Not with
  | false=>cases pJ p <;> simp
  | true=>
   rw [J4 t (i+1) (by omega)]
   cases pJ p <;> simp
theorem DB (c:Nat):∀ (l:List av) (i:Nat),c≤i→it c i l=(l.all pJ && l.all fun p=>p.Not)
 | [],i,h=>rfl
 | p :: t,i,h=>by
  have h1:decide (c≤i)=true:=decide_eq_true h
  unfold it
  rw [DB c t (i+1) (by omega),h1]
  simp only [List.all_cons]
  cases pJ p <;> cases p.Not <;> simp
theorem pA:∀ (l:List av),(l.all fun p=>p.Not)=true↔aj l=0
 | []=>by simp [aj]
 | p :: t=>by
  unfold aj
  have:=pA t
  cases hp:p.Not with
  | true=>simp [hp]; simpa using this
  | false=>simp [hp]
theorem CZ:∀ (l:List av) (i:Nat) (b:Bool),(0 < i→b=false)→i≤3→(wx i b l=true↔(i=0→l=[]∨0 < aj l)∧i+aj l≤3∧it (i+aj l) i l=true)
 | [],i,b,hb,hi=>by simp [wx,aj,it,hi]
 | p :: t,i,b,hb,hi=>by
  have hb':(decide (0 < i) && b)=false:=by
   by_cases h:0 < i
   ·simp [hb h]
   ·simp [h]
  unfold wx it aj
  rw [hb']
  cases hp:p.Not with
  | true=>
   simp only [Bool.not_true,Bool.and_false,Bool.not_false,Bool.true_and,if_true,Bool.and_true,Bool.false_and]
   by_cases h0:i=0
   ·subst h0
    simp only [decide_true,Bool.not_true,Bool.and_false,Bool.false_and,Bool.false_eq_true,false_iff]
    rintro ⟨h1,h2,h3⟩
    have h1:0 < aj t:=by simpa using h1
    simp only [Bool.and_eq_true,beq_iff_eq] at h3
    have:=h3.2.1
    simp at this
    omega
   ·rw [decide_eq_false h0,J4 t (i+1) (by omega)]
    simp only [Bool.not_false,Bool.true_and,Bool.and_eq_true,beq_iff_eq,h0,false_implies,true_and]
    constructor
    ·rintro ⟨h1,h2,h3⟩
     have h4:=(pA t).1 h3
     rw [h4]
     refine ⟨by omega,h1,by simp,?_⟩
     rw [DB _ t (i+1) (by omega),h2,h3]; rfl
    ·rintro ⟨h1,h2,h3,h4⟩
     have h5:i+aj t≤i:=by simpa using h3
     have h6:aj t=0:=by omega
     exact ⟨h2,by
      rw [DB _ t (i+1) (by omega)] at h4
      simp only [Bool.and_eq_true] at h4
      exact h4.1,(pA t).2 h6⟩
  | false=>
   simp only [Bool.not_false,Bool.and_true,Bool.and_false,Bool.true_and,Bool.false_eq_true,if_false,Bool.and_eq_true,beq_iff_eq]
   have e1:decide (i+(aj t+1)≤i)=false:=decide_eq_false (by omega)
   rw [e1]
   have ar:i+(aj t+1)=i+1+aj t:=by omega
   by_cases h2:2 < i
   ·simp only [h2,decide_true,Bool.not_true,Bool.false_eq_true,false_and,false_iff]
    rintro ⟨_,h3,_⟩; omega
   ·have:=CZ t (i+1) false (fun _=>rfl) (by omega)
    simp only [h2,decide_false,Bool.not_false,true_and]
    rw [this,ar]
    constructor
    ·rintro ⟨h3,_,h4,h5⟩
     refine ⟨fun _=>.inr (by omega),h4,h3,?_⟩
     first | exact ⟨rfl,h5⟩ | exact h5
    ·rintro ⟨_,h4,h3,h5⟩
     refine ⟨h3,by omega,h4,?_⟩
     first | exact h5.2 | exact h5
theorem HU (l:List av):(wx 0 false l && (decide (1≤l.length) && decide (l.length≤6)))=kQ l:=by
 have:=CZ l 0 false (by simp) (by omega)
 simp only [true_implies,Nat.zero_add] at this
 rw [Bool.eq_iff_iff]
 unfold kQ
 simp only [Bool.and_eq_true,decide_eq_true_eq,this]
 constructor
 ·rintro ⟨⟨h1,h2,h3⟩,h4,h5⟩
  have h1:=h1.resolve_left (by rintro rfl; simp at h4)
  exact ⟨⟨h4,h5⟩,⟨by omega,h2⟩,h3⟩
 ·rintro ⟨⟨h4,h5⟩,⟨h1,h2⟩,h3⟩
  exact ⟨⟨.inr (by omega),h2,h3⟩,h4,h5⟩
theorem N5 {N:Nat} (hN:1399000000000≤N) (l:List av) (hl:l.length≤1048576) (hp:∀ p∈l,Df p):rQ N l=some (kQ l):=by
 have lp:∀ (n i:Nat) (b:Bool),i≤l.length→l.length - i < n→(∀ (h:i - 1 < l.length),0 < i→l[i - 1].Not=b)→eS N l n i=some (wx i b (l.drop i) && (decide (1≤l.length) && decide (l.length≤6))):=by
  intro n
  induction n with
  | zero=>intro i b _ h; omega
  | succ n ih=>
   intro i b hi hn hb
   by_cases hlt:i < l.length
   ·have c1:decide ((i:Int) < (l.length:Int))=true:=decide_eq_true (by omega)
    have h2:decide ((2:Int) < (i:Int))=decide (2 < i):=by rw [decide_eq_decide]; omega
    have h3:decide ((i:Int)=0)=decide (i=0):=by rw [decide_eq_decide]; omega
    have h4:decide ((0:Int) < (i:Int))=decide (0 < i):=by rw [decide_eq_decide]; omega
    rw [List.drop_eq_getElem_cons hlt]
    simp only [eS,c1,if_true,an hlt,Option.bind_some,NW hN _ (hp _ (List.getElem_mem hlt)),h2,h3,h4,wr1 i (by omega),ih (i+1) l[i].Not (by omega) (by omega) (fun h _=>rfl),wx]
    by_cases h0:0 < i
    ·have e1:IntKind.i64.wrap ((i:Int) - 1)=((i - 1:Nat):Int):=by rw [wr (by omega) (by omega)]; omega
     have e2:=hb (by omega) h0
     have e3:decide (i=0)=false:=decide_eq_false (by omega)
     simp only [h0,decide_true,if_true,e1,an (show i - 1 < l.length by omega),Option.bind_some,e2,e3]
     cases decide (2 < i) <;> cases l[i].Not <;> cases pJ l[i] <;> cases b <;> simp
    ·have e3:decide (i=0)=true:=decide_eq_true (by omega)
     simp only [h0,decide_false,Bool.false_eq_true,if_false,Option.bind_some,e3]
     cases decide (2 < i) <;> cases l[i].Not <;> cases pJ l[i] <;> simp
   ·have c1:decide ((i:Int) < (l.length:Int))=false:=decide_eq_false (by omega)
    have h1:decide ((1:Int)≤(l.length:Int))=decide (1≤l.length):=by rw [decide_eq_decide]; omega
    have h2:decide ((l.length:Int)≤6)=decide (l.length≤6):=by rw [decide_eq_decide]; omega
    rw [List.drop_of_length_le (by omega)]
    simp only [eS,c1,Bool.false_eq_true,if_false,in0,Option.bind_some,h1,h2]; rfl
 unfold rQ
 rw [show eS N l N 0=_ from lp N 0 false (by omega) (by omega) (fun _ h=>by omega),List.drop_zero,HU]
def tQ (vs:List ByteArray) (c:bn):Bool:=sG c && (oy vs c.L && oy vs c.R)
theorem JG {N:Nat} (hN:1399000000000≤N) (l:List bn) (vs:List ByteArray) (hl:l.length≤1048576) (h:∀ c∈l,Ac c) (hv:vs.length≤1099511627776):oH N l vs=some (l.all (tQ vs) && decide (l.length≤6)):=by
 have h2:decide ((l.length:Int)≤6)=decide (l.length≤6):=by rw [decide_eq_decide]; omega
 unfold oH
 refine lp0 hN l (by omega) (fb N l vs) (fun t=>some (t.all (tQ vs) && decide (l.length≤6))) (fun n i x t g1 g2 g3 g4 g5 g6 g7=>?_) (fun n i g1 g2=>?_)
 ·simp only [fb,g5,if_true,g4,Option.bind_some,Mr hN x (h x g2),HE hN _ vs hv,g6,g7,List.all_cons,tQ]
  cases sG x <;> cases oy vs x.L <;> cases oy vs x.R <;> simp
 ·simp only [fb,g2,Bool.false_eq_true,if_false,h2]; rfl
def tN (vs:List ByteArray) (e:bk):Bool:=oy vs e.L && oy vs e.R
def uJ (vs:List ByteArray) (pos:Nat) (a:bM):Bool:=ub a && (!(decide (a.Kind=2) && decide ((pos:Int)≤a.N)) && a.Args.all (tN vs))
theorem M4 {N:Nat} (hN:1399000000000≤N) (l:List bM) (vs:List ByteArray) (pos:Nat) (hl:l.length≤1048576) (h:∀ c∈l,Dm c) (hv:vs.length≤1099511627776):rp N l vs pos=some (l.all (uJ vs pos) && (decide (1≤l.length) && decide (l.length≤6))):=by
 have h1:decide ((1:Int)≤(l.length:Int))=decide (1≤l.length):=by rw [decide_eq_decide]; omega
 have h2:decide ((l.length:Int)≤6)=decide (l.length≤6):=by rw [decide_eq_decide]; omega
 unfold rp
 refine lp0 hN l (by omega) (d7 N l vs pos) (fun t=>some (t.all (uJ vs pos) && (decide (1≤l.length) && decide (l.length≤6)))) (fun n i x t g1 g2 g3 g4 g5 g6 g7=>?_) (fun n i g1 g2=>?_)
 ·have hx:=h x g2
  have inner:=lp0 hN x.Args (by have:=hx.2.2.1; omega) (fX N l vs i (d7 N l vs pos n)) (fun u=>some (u.all (tN vs) && (t.all (uJ vs pos) && (decide (1≤l.length) && decide (l.length≤6))))) (fun n' i' y u k1 k2 k3 k4 k5 k6 k7=>by
   simp only [fX,g4,Option.bind_some,k5,if_true,k4,HE hN _ vs hv,k6,k7,List.all_cons,tN]
   cases oy vs y.L <;> cases oy vs y.R <;> simp) (fun n' i' k1 k2=>by
   simp only [fX,g4,Option.bind_some,k2,Bool.false_eq_true,if_false,g6,g7,List.all_nil,Bool.true_and])
  simp only [d7,g5,if_true,g4,Option.bind_some,Ny hN x hx,inner,List.all_cons,uJ]
  cases ub x <;> cases decide (x.Kind=2) <;> cases decide ((pos:Int)≤x.N) <;> simp [Bool.and_assoc]
 ·simp only [d7,g2,Bool.false_eq_true,if_false,in0,Option.bind_some,h1,h2]; rfl
def DK (r:ag):Prop:=r.Name.size≤1048576∧(r.Pats.length≤1048576∧∀ p∈r.Pats,Df p)∧(r.Conds.length≤1048576∧∀ c∈r.Conds,Ac c)∧(r.Acts.length≤1048576∧∀ a∈r.Acts,Dm a)∧kK r.Pats≤1048576∧(r.Acts.map fun a=>a.Args.length).sum≤1048576
def pt (r:ag):Bool:=gD r.Name && ((decide (-100≤r.Sal) && decide (r.Sal≤100)) && (kQ r.Pats && ((r.Conds.all (tQ (iy r)) && decide (r.Conds.length≤6)) && (r.Acts.all (uJ (iy r) (aj r.Pats)) && (decide (1≤r.Acts.length) && decide (r.Acts.length≤6))))))
theorem M7 {N:Nat} (hN:1399000000000≤N) (r:ag) (h:DK r):qW N r=some (pt r):=by
 obtain ⟨h1,⟨h2,h2'⟩,⟨h3,h3'⟩,⟨h4,h4'⟩,h5,h6⟩:=h
 have hb:=Dh h5
 unfold qW pt
 have e1:=JG hN _ (iy r) h3 h3' (by omega)
 have e2:=M4 hN _ (iy r) (aj r.Pats) h4 h4' (by omega)
 have e0:m8 N r=some (iy r):=HT hN r h2 h5 (fun p hp=>(h2' p hp).2.1)
 simp only [e0,Option.bind_some,tt hN _ h1,in0,N5 hN _ h2 h2',e1,Hv hN r h2,e2,oA,Bool.and_assoc]
def cn:List bn→List ByteArray
 | []=>[]
 | c :: t=>cz [c.L,c.R]++cn t
def gK:List bk→List ByteArray
 | []=>[]
 | e :: t=>cz [e.L,e.R]++gK t
def cG:List bM→List ByteArray
 | []=>[]
 | a :: t=>gK a.Args++cG t
theorem vg:∀ (l:List bn),(cn l).length≤2*l.length
 | []=>by simp [cn]
 | c :: t=>by have:=vg t; have:=iE [c.L,c.R]; simp [cn] at *; omega
theorem vm:∀ (l:List bk),(gK l).length≤2*l.length
 | []=>by simp [gK]
 | c :: t=>by have:=vm t; have:=iE [c.L,c.R]; simp [gK] at *; omega
def mJ (l:List bM):Nat:=(l.map fun a=>a.Args.length).sum
theorem wB:∀ (l:List bM),(cG l).length≤2*mJ l
 | []=>by simp [cG,mJ]
 | a :: t=>by have:=wB t; have:=vm a.Args; simp [cG,mJ] at *; omega
theorem NC {N:Nat} (hN:1399000000000≤N) (x:bM) (s4:Nat) (K:List ByteArray→Int→Option (List ByteArray)) (l:List bM) (g:List ByteArray→Option (List ByteArray)) (s:List ByteArray) (hl:s.length+2*x.Args.length≤4294967280) (hx:x.Args.length≤1048576) (h4:s4≤1048576)
  (hK:∀ s',s'.length≤s.length+2*x.Args.length→K s' ((s4+1:Nat):Int)=g s'):em N s4 K x N s 0=g ((gK x.Args).foldl dd s):=by
 refine lp' hN x.Args (by omega) (em N s4 K x) (fun t s=>g ((gK t).foldl dd s)) (fun u t=>u.length+2*t.length≤s.length+2*x.Args.length) s (by omega) (fun n u i y t h1 h2 h3 h4' h5 h6 hI ih=>?_) (fun n u i h1 h2 hI=>?_)
 ·simp only [List.length_cons] at hI
  have hv:=nE (cz [y.L,y.R]) u
  have ha:=iE [y.L,y.R]
  simp only [List.length_cons,List.length_nil] at ha
  simp only [em,h5,if_true,h4',Option.bind_some,xz hN [y.L,y.R] u (by simp; omega),h6,gK,List.foldl_append]
  exact ih _ (by omega)
 ·simp only [em,h2,Bool.false_eq_true,if_false,wr1 s4 (by omega),gK]
  exact hK u (by simpa using hI)
theorem M9 {N:Nat} (hN:1399000000000≤N) (r:ag) (hc:r.Conds.length≤1048576) (ha:r.Acts.length≤1048576) (hx:∀ a∈r.Acts,a.Args.length≤1048576) (he:mJ r.Acts≤1048576):ni N r=some ((cn r.Conds++cG r.Acts).foldl dd []):=by
 unfold ni
 have a2:∀ s:List ByteArray,s.length≤4194304→cO N r N s 0=some ((cG r.Acts).foldl dd s):=fun s hs=>
  lp' hN r.Acts (by omega) (cO N r) (fun t s=>some ((cG t).foldl dd s)) (fun s t=>s.length+2*mJ t≤16777216) s (by omega) (fun n u i x t h1 h2 h3 h4 h5 h6 hI ih=>by
   have hI':u.length+2*(x.Args.length+mJ t)≤16777216:=by simpa [mJ] using hI
   simp only [cO,h5,if_true,h4,Option.bind_some,cG,List.foldl_append]
   exact NC hN x i (cO N r n) r.Acts (fun s'=>some ((cG t).foldl dd s')) u (by omega) (hx x h2) (by omega) (fun s' hs'=>ih s' (by omega))) (fun n u i h1 h2 hI=>by simp only [cO,h2,Bool.false_eq_true,if_false]; rfl)
 refine lp' hN r.Conds (by omega) (fD N r) (fun t s=>some ((cn t++cG r.Acts).foldl dd s)) (fun s t=>s.length+2*t.length≤4194304) [] (by simp; omega) (fun n u i x t h1 h2 h3 h4 h5 h6 hI ih=>?_) (fun n u i h1 h2 hI=>?_)
 ·simp only [List.length_cons] at hI
  have hv:=nE (cz [x.L,x.R]) u
  have ha:=iE [x.L,x.R]
  simp only [List.length_cons,List.length_nil] at ha
  simp only [fD,h5,if_true,h4,Option.bind_some,xz hN [x.L,x.R] u (by simp; omega),h6,cn,List.append_assoc]
  rw [List.foldl_append]
  exact ih _ (by omega)
 ·simp only [fD,h2,Bool.false_eq_true,if_false,cn,List.nil_append]
  exact a2 u (by simpa using hI)
theorem Do (vs:List ByteArray) (a b:be):(oy vs a && oy vs b)=true↔∀ x∈cz [a,b],x∈vs:=by
 unfold oy
 simp only [uR,List.mem_cons,List.not_mem_nil,or_false,Bool.and_eq_true,Bool.or_eq_true,Bool.not_eq_true',decide_eq_false_iff_not,decide_eq_true_eq]
 constructor
 ·rintro ⟨h1,h2⟩ x ⟨c,rfl | rfl,h3,rfl⟩
  ·exact h1.resolve_left (fun h=>h h3)
  ·exact h2.resolve_left (fun h=>h h3)
 ·intro h
  refine ⟨?_,?_⟩
  ·by_cases h1:a.K=1
   ·exact .inr (h _ ⟨a,.inl rfl,h1,rfl⟩)
   ·exact .inl h1
  ·by_cases h1:b.K=1
   ·exact .inr (h _ ⟨b,.inr rfl,h1,rfl⟩)
   ·exact .inl h1
theorem vi (vs:List ByteArray):∀ (l:List bn),(∀ x∈cn l,x∈vs)↔∀ c∈l,(oy vs c.L && oy vs c.R)=true
 | []=>by simp [cn]
 | c :: t=>by
  simp only [cn,List.mem_append,or_imp,forall_and,vi vs t,List.mem_cons,forall_eq,Do]
theorem vw (vs:List ByteArray):∀ (l:List bk),(∀ x∈gK l,x∈vs)↔∀ c∈l,tN vs c=true
 | []=>by simp [gK]
 | c :: t=>by
  simp only [gK,List.mem_append,or_imp,forall_and,vw vs t,List.mem_cons,forall_eq,tN,Do]
theorem wa (vs:List ByteArray):∀ (l:List bM),(∀ x∈cG l,x∈vs)↔∀ a∈l,a.Args.all (tN vs)=true
 | []=>by simp [cG]
 | c :: t=>by
  simp only [cG,List.mem_append,or_imp,forall_and,wa vs t,List.mem_cons,forall_eq,vw,List.all_eq_true]
theorem Lt {N:Nat} (hN:1399000000000≤N) (r:ag) (h:DK r):qy N r=some (pt r):=by
 obtain ⟨h1,⟨h2,h2'⟩,⟨h3,h3'⟩,⟨h4,h4'⟩,h5,h6⟩:=h
 have hb:=Dh h5
 have e0:lV N r=some (iy r):=Ip hN r h2 h5
 have e1:=M9 hN r h3 h4 (fun a ha=>(h4' a ha).2.2.1) h6
 have ul:((cn r.Conds++cG r.Acts).foldl dd []).length≤1099511627776:=by
  have a1:=nE (cn r.Conds++cG r.Acts) []
  have a2:=vg r.Conds
  have a3:=wB r.Acts
  have a4:mJ r.Acts≤1048576:=h6
  simp only [List.length_append,List.length_nil] at a1; omega
 have l3:eR N (iy r) ((cn r.Conds++cG r.Acts).foldl dd []) N 0=some (((cn r.Conds++cG r.Acts).foldl dd []).all fun x=>decide (x∈iy r)):=
  lp0 hN _ ul (eR N (iy r) _) (fun t=>some (t.all fun x=>decide (x∈iy r))) (fun n i x t g1 g2 g3 g4 g5 g6 g7=>by
   simp only [eR,g5,if_true,g4,Option.bind_some,L5 hN _ x (show (iy r).length≤1099511627776 by omega),g6,g7,List.all_cons]
   cases decide (x∈iy r) <;> rfl) (fun n i g1 g2=>by simp only [eR,g2,Bool.false_eq_true,if_false]; rfl)
 have l2:eZ N r N 0=some ((r.Acts.all fun a=>ub a && !(decide (a.Kind=2) && decide ((aj r.Pats:Int)≤a.N))) && ((cn r.Conds++cG r.Acts).foldl dd []).all fun x=>decide (x∈iy r)):=
  lp0 hN r.Acts (by omega) (eZ N r) (fun t=>some ((t.all fun a=>ub a && !(decide (a.Kind=2) && decide ((aj r.Pats:Int)≤a.N))) && ((cn r.Conds++cG r.Acts).foldl dd []).all fun x=>decide (x∈iy r))) (fun n i x t g1 g2 g3 g4 g5 g6 g7=>by
   simp only [eZ,g5,if_true,g4,Option.bind_some,NS hN x (h4' x g2),Hl hN r h2,g6,g7,List.all_cons]
   cases ub x <;> cases decide (x.Kind=2) <;> cases decide ((aj r.Pats:Int)≤x.N) <;> simp) (fun n i g1 g2=>by
   simp only [eZ,g2,Bool.false_eq_true,if_false,e0,e1,Option.bind_some,l3]; rfl)
 have l1:eO N r N 0=some (r.Conds.all sG && ((r.Acts.all fun a=>ub a && !(decide (a.Kind=2) && decide ((aj r.Pats:Int)≤a.N))) && ((cn r.Conds++cG r.Acts).foldl dd []).all fun x=>decide (x∈iy r))):=
  lp0 hN r.Conds (by omega) (eO N r) (fun t=>some (t.all sG && ((r.Acts.all fun a=>ub a && !(decide (a.Kind=2) && decide ((aj r.Pats:Int)≤a.N))) && ((cn r.Conds++cG r.Acts).foldl dd []).all fun x=>decide (x∈iy r)))) (fun n i x t g1 g2 g3 g4 g5 g6 g7=>by
   simp only [eO,g5,if_true,g4,Option.bind_some,Ml hN x (h3' x g2),g6,g7,List.all_cons]
   cases sG x <;> simp) (fun n i g1 g2=>by
   simp only [eO,g2,Bool.false_eq_true,if_false,l2]; rfl)
 have d1:decide ((6:Int) < (r.Conds.length:Int)) = !decide (r.Conds.length≤6):=by rw [← decide_not,decide_eq_decide]; omega
 have d2:decide ((1:Int)≤(r.Acts.length:Int))=decide (1≤r.Acts.length):=by rw [decide_eq_decide]; omega
 have d3:decide ((r.Acts.length:Int)≤6)=decide (r.Acts.length≤6):=by rw [decide_eq_decide]; omega
 have key:(r.Conds.all sG && ((r.Acts.all fun a=>ub a && !(decide (a.Kind=2) && decide ((aj r.Pats:Int)≤a.N))) && ((cn r.Conds++cG r.Acts).foldl dd []).all fun x=>decide (x∈iy r)))=(r.Conds.all (tQ (iy r)) && r.Acts.all (uJ (iy r) (aj r.Pats))):=by
  rw [Bool.eq_iff_iff]
  have k1:(((cn r.Conds++cG r.Acts).foldl dd []).all fun x=>decide (x∈iy r))=true↔(∀ c∈r.Conds,(oy (iy r) c.L && oy (iy r) c.R)=true)∧∀ a∈r.Acts,a.Args.all (tN (iy r))=true:=by
   rw [← vi,← wa]
   simp only [List.all_eq_true,decide_eq_true_eq,xc,List.not_mem_nil,false_or,List.mem_append,or_imp,forall_and]
  rw [Bool.and_eq_true,Bool.and_eq_true,Bool.and_eq_true,k1]
  simp only [List.all_eq_true,tQ,uJ,Bool.and_eq_true,forall_and,and_imp]
  constructor
  ·rintro ⟨a1,⟨a2,a3⟩,⟨a4,a5⟩,a6⟩; exact ⟨⟨a1,a4,a5⟩,a2,a3,a6⟩
  ·rintro ⟨⟨a1,a4,a5⟩,a2,a3,a6⟩; exact ⟨a1,⟨a2,a3⟩,⟨a4,a5⟩,a6⟩
 unfold qy pt
 simp only [tu hN _ h1,Option.bind_some,in1,Nn hN r h2 h2',d1,d2,d3,l1,key]
 generalize gD r.Name=a; generalize kQ r.Pats=b; generalize (decide (-100≤r.Sal) && decide (r.Sal≤100))=c; generalize decide (r.Conds.length≤6)=d; generalize (decide (1≤r.Acts.length) && decide (r.Acts.length≤6))=e
 generalize r.Conds.all (tQ (iy r))=f; generalize r.Acts.all (uJ (iy r) (aj r.Pats))=g
 cases a <;> cases b <;> cases c <;> cases d <;> cases e <;> cases f <;> cases g <;> rfl
def vS (l:List ag) (v:ByteArray):Int:=match l.findIdx? (fun r=>seq r.Name v) with | some j=>(j:Int) | none=>-1
theorem P5 {N:Nat} (hN:1399000000000≤N) (d:bo) (v:ByteArray) (hl:d.Rules.length≤1048576):rm N d v=some (vS d.Rules v):=by
 unfold rm vS
 have a:=zQ (gf N d v) d.Rules (by omega) (fun x=>seq x.Name v) (fun n i x hx _ hc hw=>by simp only [gf,hc,if_true,hx,Option.bind_some,hw]) (fun n i hc=>by simp only [gf,hc,Bool.false_eq_true,if_false]) N 0 (by omega) (by omega)
 rw [show ((0:Nat):Int)=0 from rfl,List.drop_zero] at a
 rw [a]
 cases d.Rules.findIdx? (fun r=>seq r.Name v) <;> simp
theorem OT {N:Nat} (hN:1399000000000≤N) (d:bo) (v:ByteArray) (hl:d.Rules.length≤1048576):sf N d v=some (vS d.Rules v):=by
 unfold sf d5 vS
 have b:=zQ (bb N d.Rules (fun a0=>jx N a0 v)) d.Rules (by omega) (fun x=>seq x.Name v) (fun n i x hx _ hc hw=>by simp only [bb,jx,hc,if_true,hx,Option.bind_some,hw]) (fun n i hc=>by simp only [bb,hc,Bool.false_eq_true,if_false]) N 0 (by omega) (by omega)
 rw [show ((0:Nat):Int)=0 from rfl,List.drop_zero] at b
 rw [b]
 cases d.Rules.findIdx? (fun r=>seq r.Name v) <;> simp
def jm (all:List ag):Nat→List ag→Bool
 | _,[]=>true
 | i,r :: t=>pt r && (decide (vS all r.Name=(i:Int)) && jm all (i+1) t)
def lY (d:bo):Bool:=gD d.Name && ((decide (1≤d.Rules.length) && decide (d.Rules.length≤12)) && jm d.Rules 0 d.Rules)
def xS (d:bo):Prop:=d.Name.size≤1048576∧d.Rules.length≤1048576∧∀ r∈d.Rules,DK r
theorem NO {N:Nat} (hN:1399000000000≤N) (d:bo) (h:xS d):tB N d=some (lY d):=by
 obtain ⟨h1,h2,h3⟩:=h
 have lp:∀ (n i:Nat),i≤d.Rules.length→d.Rules.length - i < n→fN N d n i=some (jm d.Rules i (d.Rules.drop i)):=by
  intro n
  induction n with
  | zero=>intro i _ h; omega
  | succ n ih=>
   intro i hi hn
   by_cases hlt:i < d.Rules.length
   ·have c1:decide ((i:Int) < (d.Rules.length:Int))=true:=decide_eq_true (by omega)
    rw [List.drop_eq_getElem_cons hlt]
    simp only [fN,c1,if_true,an hlt,Option.bind_some,Lt hN _ (h3 _ (List.getElem_mem hlt)),OT hN d _ h2,wr1 i (by omega),ih (i+1) (by omega) (by omega),jm]
    cases pt d.Rules[i] <;> cases decide (vS d.Rules d.Rules[i].Name=(i:Int)) <;> simp
   ·have c1:decide ((i:Int) < (d.Rules.length:Int))=false:=decide_eq_false (by omega)
    rw [List.drop_of_length_le (by omega)]
    simp only [fN,c1,Bool.false_eq_true,if_false]; rfl
 have l0:=lp N 0 (by omega) (by omega)
 have d1:decide ((1:Int)≤(d.Rules.length:Int))=decide (1≤d.Rules.length):=by rw [decide_eq_decide]; omega
 have d2:decide ((d.Rules.length:Int)≤12)=decide (d.Rules.length≤12):=by rw [decide_eq_decide]; omega
 unfold tB lY
 simp only [tu hN _ h1,Option.bind_some,in1,d1,d2]
 rw [show fN N d N 0=_ from l0,List.drop_zero]
 cases gD d.Name <;> cases (decide (1≤d.Rules.length) && decide (d.Rules.length≤12)) <;> rfl
theorem NE {N:Nat} (hN:1399000000000≤N) (d:bo) (h:xS d):tj N d=some (lY d):=by
 obtain ⟨h1,h2,h3⟩:=h
 have d1:decide ((1:Int)≤(d.Rules.length:Int))=decide (1≤d.Rules.length):=by rw [decide_eq_decide]; omega
 have d2:decide ((d.Rules.length:Int)≤12)=decide (d.Rules.length≤12):=by rw [decide_eq_decide]; omega
 have lp:∀ (n i:Nat),i≤d.Rules.length→d.Rules.length - i < n→fS N d n i=some (jm d.Rules i (d.Rules.drop i) && (gD d.Name && (decide (1≤d.Rules.length) && decide (d.Rules.length≤12)))):=by
  intro n
  induction n with
  | zero=>intro i _ h; omega
  | succ n ih=>
   intro i hi hn
   by_cases hlt:i < d.Rules.length
   ·have c1:decide ((i:Int) < (d.Rules.length:Int))=true:=decide_eq_true (by omega)
    rw [List.drop_eq_getElem_cons hlt]
    simp only [fS,c1,if_true,an hlt,Option.bind_some,M7 hN _ (h3 _ (List.getElem_mem hlt)),P5 hN d _ h2,wr1 i (by omega),ih (i+1) (by omega) (by omega),jm]
    cases pt d.Rules[i] <;> cases decide (vS d.Rules d.Rules[i].Name=(i:Int)) <;> simp
   ·have c1:decide ((i:Int) < (d.Rules.length:Int))=false:=decide_eq_false (by omega)
    rw [List.drop_of_length_le (by omega)]
    simp only [fS,c1,Bool.false_eq_true,if_false,tt hN _ h1,in0,Option.bind_some,d1,d2,oA,jm,Bool.true_and]
 have l0:=lp N 0 (by omega) (by omega)
 unfold tj lY
 rw [show fS N d N 0=_ from l0,List.drop_zero]
 cases jm d.Rules 0 d.Rules <;> simp
theorem vI {d:bo} (h:lY d=true):∀ r∈d.Rules,pt r=true:=by
 unfold lY at h
 simp only [Bool.and_eq_true] at h
 have:∀ (l:List ag) (i:Nat),jm d.Rules i l=true→∀ r∈l,pt r=true:=by
  intro l
  induction l with
  | nil=>intro i _ r hr; cases hr
  | cons x t ih=>
   intro i hi r hr
   unfold jm at hi
   simp only [Bool.and_eq_true] at hi
   rcases List.mem_cons.1 hr with rfl | hr
   ·exact hi.1
   ·exact ih _ hi.2.2 r hr
 exact this _ _ h.2.2
def br (as:List a9) (a:a9):Int × List a9:=match as.findIdx? (fun x=>decide (x=a)) with | some j=>((j:Int),as) | none=>((as.length:Int),as++[a])
def bt:List a9→List Int→List Int→List av→List a9 × List Int × List Int
 | as,p,n,[]=>(as,p,n)
 | as,p,n,x :: t=>if x.Not then bt (br as (aT x)).2 p (n++[(br as (aT x)).1]) t else bt (br as (aT x)).2 (p++[(br as (aT x)).1]) n t
def ef:List a9→List ae→List ag→bc
 | as,cs,[]=>⟨as,cs⟩
 | as,cs,r :: t=>ef (bt as [] [] r.Pats).1 (cs++[⟨(bt as [] [] r.Pats).2.1,(bt as [] [] r.Pats).2.2⟩]) t
def cr (d:bo):bc:=ef [] [] d.Rules
theorem vL {p:av} (h:p.Args.length≤1048576):jL (aT p):=by
 have h1:=zq p.Args
 have h2:=HJ p.Args 0
 exact ⟨by show (jQ p.Args).length≤_; omega,by show (ats 0 p.Args).length≤_; omega⟩
theorem sj (as:List a9) (a:a9):(br as a).2.length≤as.length+1∧as.length≤(br as a).2.length:=by
 unfold br
 split <;> simp
theorem uQ {P:a9→Prop} {as:List a9} {a:a9} (h:∀ x∈as,P x) (ha:P a):∀ x∈(br as a).2,P x:=by
 unfold br
 split
 ·exact h
 ·intro x hx
  rcases List.mem_append.1 hx with h1 | h1
  ·exact h x h1
  ·simp at h1; rw [h1]; exact ha
theorem uS {P:a9→Prop}:∀ (t:List av) (as:List a9) (p n:List Int),(∀ x∈as,P x)→(∀ x∈t,P (aT x))→∀ x∈(bt as p n t).1,P x
 | [],as,p,n,h,_=>h
 | x :: t,as,p,n,h,ht=>by
  unfold bt
  have:=uQ h (ht x (by simp))
  split
  ·exact uS t _ _ _ this fun y hy=>ht y (by simp [hy])
  ·exact uS t _ _ _ this fun y hy=>ht y (by simp [hy])
theorem uq:∀ (t:List av) (as:List a9) (p n:List Int),(bt as p n t).1.length≤as.length+t.length∧(bt as p n t).2.1.length+(bt as p n t).2.2.length=p.length+n.length+t.length
 | [],as,p,n=>by simp [bt]
 | x :: t,as,p,n=>by
  have h1:=(sj as (aT x)).1
  unfold bt
  split
  ·have:=uq t (br as (aT x)).2 p (n++[(br as (aT x)).1])
   simp only [List.length_append,List.length_cons,List.length_nil] at this ⊢
   omega
  ·have:=uq t (br as (aT x)).2 (p++[(br as (aT x)).1]) n
   simp only [List.length_append,List.length_cons,List.length_nil] at this ⊢
   omega
def pg (l:List ag):Nat:=(l.map fun r=>r.Pats.length).sum
theorem oa (r:ag) (t:List ag):pg (r :: t)=r.Pats.length+pg t:=by simp [pg]
def A0 (rs:List ag):Prop:=rs.length≤1048576∧pg rs≤1048576∧∀ r∈rs,∀ p∈r.Pats,p.Args.length≤1048576
theorem Ga {B:Nat}:∀ {l:List ag},(∀ r∈l,r.Pats.length≤B)→pg l≤l.length*B
 | [],_=>by simp [pg]
 | p :: t,h=>by
  have h1:=Ga (l:=t) fun q hq=>h q (by simp [hq])
  have h2:=h p (by simp)
  rw [oa,List.length_cons,Nat.succ_mul]; omega
theorem wl {c:Nat}:∀ (l:List av) (i:Nat),it c i l=true→∀ p∈l,pJ p=true
 | [],_,_,p,hp=>by cases hp
 | x :: t,i,h,p,hp=>by
  unfold it at h
  simp only [Bool.and_eq_true] at h
  rcases List.mem_cons.1 hp with rfl | hp
  ·exact h.1
  ·exact wl t _ h.2.2 p hp
theorem uW {d:bo} (hd:lY d=true):A0 d.Rules:=by
 have h1:d.Rules.length≤12:=by
  unfold lY at hd
  simp only [Bool.and_eq_true,decide_eq_true_eq] at hd
  exact hd.2.1.2
 have h2:∀ r∈d.Rules,kQ r.Pats=true:=fun r hr=>by
  have:=vI hd r hr
  unfold pt at this
  simp only [Bool.and_eq_true] at this
  exact this.2.2.1
 have h3:∀ r∈d.Rules,r.Pats.length≤6:=fun r hr=>by
  have:=h2 r hr
  unfold kQ at this
  simp only [Bool.and_eq_true,decide_eq_true_eq] at this
  exact this.1.2
 have h4:=Ga h3
 refine ⟨by omega,by omega,fun r hr p hp=>?_⟩
 have:=h2 r hr
 unfold kQ at this
 simp only [Bool.and_eq_true,decide_eq_true_eq] at this
 have h5:=wl _ _ this.2.2 p hp
 unfold pJ at h5
 simp only [Bool.and_eq_true,decide_eq_true_eq] at h5
 omega
theorem zZ:∀ (l:List av),(l.filter fun x=>!x.Not).length+(l.filter fun x=>x.Not).length=l.length
 | []=>rfl
 | p :: t=>by
  have:=zZ t
  simp only [List.filter_cons]
  cases p.Not <;> simp <;> omega
theorem tL:∀ (l:List av),(l.filter fun x=>!x.Not).length=aj l
 | []=>rfl
 | p :: t=>by
  have:=tL t
  simp only [List.filter_cons,aj]
  cases p.Not <;> simp [this]
theorem vh {c:Nat}:∀ (l:List av) (i:Nat),it c i l=true→l.filter (fun x=>!x.Not)=l.take (c - i)
 | [],i,_=>by simp
 | p :: t,i,h=>by
  unfold it at h
  simp only [Bool.and_eq_true,beq_iff_eq] at h
  have h1:=h.2.1
  have h2:=vh t (i+1) h.2.2
  by_cases hc:c≤i
  ·rw [decide_eq_true hc] at h1
   have e1:c - i=0:=by omega
   have e2:c - (i+1)=0:=by omega
   rw [e1,List.take_zero,List.filter_cons,h1]
   rw [e2,List.take_zero] at h2
   simpa using h2
  ·rw [decide_eq_false hc] at h1
   obtain ⟨k,hk⟩:∃ k,c - i=k+1:=⟨c - i - 1,by omega⟩
   have e2:c - (i+1)=k:=by omega
   rw [hk,List.take_succ_cons,List.filter_cons,h1,← e2,← h2]
   simp
theorem FZ {l:List av} (h:kQ l=true):l.filter (fun x=>!x.Not)=l.take (aj l):=by
 unfold kQ at h
 simp only [Bool.and_eq_true] at h
 have:=vh l 0 h.2.2
 simpa using this
def A8 (n:bc):Prop:=(n.Alphas.length≤1048576∧∀ a∈n.Alphas,jL a)∧n.Chains.length≤1048576∧∀ c∈n.Chains,c.Pos.length≤1048576∧c.Neg.length≤1048576
theorem FW {as:List a9} {a:a9} (hl:as.length≤4611686018427387900):idx (br as a).2 (br as a).1=some a:=by
 unfold br
 split
 ·rename_i j h
  rw [List.findIdx?_eq_some_iff_getElem] at h
  obtain ⟨hj,h1,_⟩:=h
  simp only [an hj]
  simpa using h1
 ·simp only
  rw [an (by simp)]
  simp
theorem KS {α:Type} {xs ys:List α} {i:Int} {a:α} (h:idx xs i=some a):idx (xs++ys) i=some a:=by
 obtain ⟨h0,h1,e⟩:=a7 h
 unfold idx
 rw [if_pos h0,List.getElem?_append_left (by omega)]
 exact e
theorem FE (as:List a9) (a:a9):∃ u,(br as a).2=as++u:=by
 unfold br
 split
 ·exact ⟨[],by simp⟩
 ·exact ⟨[a],rfl⟩
theorem C2 {as:List a9} {a:a9} (h:as.Nodup):(br as a).2.Nodup:=by
 unfold br
 split
 ·exact h
 ·rename_i hn
  rw [List.findIdx?_eq_none_iff] at hn
  refine List.nodup_append.2 ⟨h,by simp,?_⟩
  intro x hx y hy hxy
  simp at hy; subst hy; subst hxy
  have:=hn x hx
  simp at this
def At (A:List a9):List Int→List av→Prop
 | [],[]=>True
 | i :: l,p :: t=>idx A i=some (aT p)∧At A l t
 | _,_=>False
theorem At.ext {A u:List a9}:∀ {l:List Int} {t:List av},At A l t→At (A++u) l t
 | [],[],_=>trivial
 | i :: l,p :: t,h=>⟨KS h.1,h.2.ext⟩
theorem At.snoc {A:List a9} {i:Int} {p:av} (h2:idx A i=some (aT p)):∀ {l:List Int} {t:List av},At A l t→At A (l++[i]) (t++[p])
 | [],[],_=>⟨h2,trivial⟩
 | i :: l,p :: t,h=>⟨h.1,h.2.snoc h2⟩
theorem At.len {A:List a9}:∀ {l:List Int} {t:List av},At A l t→l.length=t.length
 | [],[],_=>rfl
 | i :: l,p :: t,h=>by simp [h.2.len]
theorem At.get {A:List a9}:∀ {l:List Int} {t:List av},At A l t→∀ (k:Nat) (h1:k < l.length) (h2:k < t.length),idx A l[k]=some (aT t[k])
 | [],[],_,k,h1,_=>by simp at h1
 | i :: l,p :: t,h,0,_,_=>h.1
 | i :: l,p :: t,h,k+1,h1,h2=>h.2.get k (by simpa using h1) (by simpa using h2)
theorem vT:∀ (t:List av) (as:List a9) (p n:List Int) (pp nn:List av),as.length+t.length≤4194304→as.Nodup→At as p pp→At as n nn →
  (∃ u,(bt as p n t).1=as++u)∧(bt as p n t).1.Nodup∧At (bt as p n t).1 (bt as p n t).2.1 (pp++t.filter fun x=>!x.Not)∧At (bt as p n t).1 (bt as p n t).2.2 (nn++t.filter fun x=>x.Not)
 | [],as,p,n,pp,nn,_,hd,h1,h2=>⟨⟨[],by simp [bt]⟩,hd,by simpa [bt] using h1,by simpa [bt] using h2⟩
 | x :: t,as,p,n,pp,nn,hl,hd,h1,h2=>by
  simp only [List.length_cons] at hl
  obtain ⟨u,hu⟩:=FE as (aT x)
  have hpl:=(sj as (aT x)).1
  have hid:=FW (as:=as) (a:=aT x) (by omega)
  have hnd:=C2 (a:=aT x) hd
  have h1':At (br as (aT x)).2 p pp:=by rw [hu]; exact h1.ext
  have h2':At (br as (aT x)).2 n nn:=by rw [hu]; exact h2.ext
  unfold bt
  cases hx:x.Not with
  | true=>
   simp only [if_true,List.filter_cons,hx,Bool.not_true,Bool.false_eq_true,if_false]
   obtain ⟨⟨w,e⟩,g1,g2,g3⟩:=vT t _ p (n++[(br as (aT x)).1]) pp (nn++[x]) (by omega) hnd h1' (h2'.snoc hid)
   exact ⟨⟨u++w,by rw [e,hu,List.append_assoc]⟩,g1,g2,by simpa using g3⟩
  | false=>
   simp only [Bool.false_eq_true,if_false,List.filter_cons,hx,Bool.not_false,if_true]
   obtain ⟨⟨w,e⟩,g1,g2,g3⟩:=vT t _ (p++[(br as (aT x)).1]) n (pp++[x]) nn (by omega) hnd (h1'.snoc hid) h2'
   exact ⟨⟨u++w,by rw [e,hu,List.append_assoc]⟩,g1,by simpa using g2,g3⟩
def Ats (A:List a9):List ae→List ag→Prop
 | [],[]=>True
 | c :: l,r :: t=>(At A c.Pos (r.Pats.filter fun x=>!x.Not)∧At A c.Neg (r.Pats.filter fun x=>x.Not))∧Ats A l t
 | _,_=>False
theorem Ats.ext {A u:List a9}:∀ {l:List ae} {t:List ag},Ats A l t→Ats (A++u) l t
 | [],[],_=>trivial
 | i :: l,p :: t,h=>⟨⟨h.1.1.ext,h.1.2.ext⟩,h.2.ext⟩
theorem Ats.snoc {A:List a9} {c:ae} {r:ag} (h2:At A c.Pos (r.Pats.filter fun x=>!x.Not)∧At A c.Neg (r.Pats.filter fun x=>x.Not)):∀ {l:List ae} {t:List ag},Ats A l t→Ats A (l++[c]) (t++[r])
 | [],[],_=>⟨h2,trivial⟩
 | i :: l,p :: t,h=>⟨h.1,h.2.snoc h2⟩
theorem Ats.len {A:List a9}:∀ {l:List ae} {t:List ag},Ats A l t→l.length=t.length
 | [],[],_=>rfl
 | i :: l,p :: t,h=>by simp [h.2.len]
theorem Ats.get {A:List a9}:∀ {l:List ae} {t:List ag},Ats A l t→∀ (k:Nat) (h1:k < l.length) (h2:k < t.length),At A l[k].Pos (t[k].Pats.filter fun x=>!x.Not)∧At A l[k].Neg (t[k].Pats.filter fun x=>x.Not)
 | [],[],_,k,h1,_=>by simp at h1
 | i :: l,p :: t,h,0,_,_=>h.1
 | i :: l,p :: t,h,k+1,h1,h2=>h.2.get k (by simpa using h1) (by simpa using h2)
theorem xY:∀ (t:List ag) (as:List a9) (cs:List ae) (rr:List ag),as.length+pg t≤4194304→as.Nodup→Ats as cs rr →
  (ef as cs t).Alphas.Nodup∧Ats (ef as cs t).Alphas (ef as cs t).Chains (rr++t)∧(ef as cs t).Alphas.length≤as.length+pg t
 | [],as,cs,rr,_,hd,h=>⟨hd,by simpa [ef] using h,by simp [ef,pg]⟩
 | r :: t,as,cs,rr,hl,hd,h=>by
  rw [oa] at hl
  obtain ⟨⟨u,e⟩,g1,g2,g3⟩:=vT r.Pats as [] [] [] [] (by omega) hd trivial trivial
  have h4:=(uq r.Pats as [] []).1
  have:=xY t (bt as [] [] r.Pats).1 (cs++[⟨(bt as [] [] r.Pats).2.1,(bt as [] [] r.Pats).2.2⟩]) (rr++[r]) (by omega) g1 (Ats.snoc ⟨by simpa using g2,by simpa using g3⟩ (by rw [e]; exact h.ext))
  unfold ef
  rw [oa]
  refine ⟨this.1,by simpa using this.2.1,by have:=this.2.2; omega⟩
theorem zF {d:bo} (h:A0 d.Rules):(cr d).Alphas.Nodup∧Ats (cr d).Alphas (cr d).Chains d.Rules∧(cr d).Alphas.length≤pg d.Rules:=by
 have h2:=h.2.1
 have:=xY d.Rules [] [] [] (by simp; omega) (by simp) trivial
 unfold cr
 refine ⟨this.1,by simpa using this.2.1,by simpa using this.2.2⟩
theorem JJ {A:List a9} {l:List ae} {t:List ag} (h:Ats A l t):∀ c∈l,∃ r∈t,c.Pos.length+c.Neg.length=r.Pats.length:=by
 intro c hc
 obtain ⟨k,hk,rfl⟩:=List.getElem_of_mem hc
 have hk':k < t.length:=by rw [← h.len]; exact hk
 have:=h.get k hk hk'
 exact ⟨_,List.getElem_mem hk',by rw [this.1.len,this.2.len,zZ]⟩
theorem wn {P:a9→Prop}:∀ (t:List ag) (as:List a9) (cs:List ae),(∀ x∈as,P x)→(∀ r∈t,∀ p∈r.Pats,P (aT p))→∀ x∈(ef as cs t).Alphas,P x
 | [],as,cs,h,_=>h
 | r :: t,as,cs,h,ht=>by
  unfold ef
  exact wn t _ _ (uS r.Pats as [] [] h (ht r (by simp))) fun q hq=>ht q (by simp [hq])
theorem Ds:∀ {l:List ag} {r:ag},r∈l→r.Pats.length≤pg l
 | x :: t,r,h=>by
  rw [oa]
  rcases List.mem_cons.1 h with rfl | h
  ·omega
  ·have:=Ds h; omega
theorem IM {d:bo} (h:A0 d.Rules):A8 (cr d):=by
 obtain ⟨h1,h2,h3⟩:=zF h
 obtain ⟨k1,k2,k3⟩:=h
 refine ⟨⟨by omega,wn d.Rules [] [] (by simp) fun r hr p hp=>vL (k3 r hr p hp)⟩,by rw [h2.len]; exact k1,fun c hc=>?_⟩
 obtain ⟨r,hr,e⟩:=JJ h2 c hc
 have:=Ds hr
 omega
def neg (l:List av):List av:=l.filter fun p=>p.Not
def okB (xs:List aC) (ps:List av) (r:List Int):List aH × Bool:=gF xs (ps.take r.length) r []
def kh (xs:List aC) (ns:List av) (l:List aH):List Int:=ns.map fun p=>(Ec p l xs:Int)
def tD (xs:List aC) (ps ns:List av) (row:List Int) (id:Int):List ab:=
 if (okB xs ps (row++[id])).2=true then [⟨row++[id],if row.length+1=ps.length then kh xs ns (okB xs ps (row++[id])).1 else []⟩] else []
def iI (xs:List aC) (ps ns:List av) (row ids:List Int):List ab:=ids.flatMap (tD xs ps ns row)
def kH (xs:List aC) (ps ns:List av) (id:Int) (k:Nat) (B F:List ab) (A:List Int):List ab:=
 if k=0 then iI xs ps ns [] [id] else B.flatMap (fun t=>iI xs ps ns t.Ids [id])++F.flatMap (fun t=>iI xs ps ns t.Ids A)
def pK (xs:List aC) (ps ns:List av) (id:Int) (A:Nat→List Int):Nat→List aa→List ab→List ab→List aa
 | _,[],_,_=>[]
 | k,L :: Ls,B,F=>⟨L.Toks++kH xs ps ns id k B F (A k)⟩ :: pK xs ps ns id A (k+1) Ls L.Toks (kH xs ps ns id k B F (A k))
def sw (f:aw) (l:List aH) (by_:Int):List av→List Int→List Int
 | p :: ns,x :: h=>(if (cb p f l).2=true then IntKind.i64.wrap (x+by_) else x) :: sw f l by_ ns h
 | _,h=>h
def ki (xs:List aC) (ps ns:List av) (f:aw) (by_:Int) (toks:List ab):List ab:=
 toks.map fun t=>if (okB xs ps t.Ids).2=true then ⟨t.Ids,sw f (okB xs ps t.Ids).1 by_ ns t.Hits⟩ else t
def An (as:List aS) (c:ae) (k:Nat):List Int:=match c.Pos[k]? with
 | some a=>(match idx as a with
  | some i=>i.L
  | none=>[])
 | none=>[]
def qE (xs:List aC) (ps ns:List av) (f:aw) (by_:Int) (row:aF):aF:=match row.Levels[row.Levels.length - 1]? with
 | some L=>⟨row.Levels.set (row.Levels.length - 1) ⟨ki xs ps ns f by_ L.Toks⟩⟩
 | none=>row
def u7 (xs:List aC) (as:List aS) (f:aw) (id:Int) (r:ag) (c:ae) (row:aF):aF:=
 ⟨pK xs (pos r.Pats) (neg r.Pats) id (An as c) 0 (qE xs (pos r.Pats) (neg r.Pats) f 1 row).Levels [] []⟩
def rE (g:ag→ae→aF→aF):List ag→List ae→List aF→List aF
 | r :: rs,c :: cs,w :: ws=>g r c w :: rE g rs cs ws
 | _,_,ws=>ws
def cW (f:aw) (id:Int):List a9→List aS→List aS
 | a :: as,i :: is=>(if jJ a f=true then ⟨i.L++[id]⟩ else i) :: cW f id as is
 | _,is=>is
def xM (d:bo) (n:bc) (m:aA) (s:ah) (id:Int):aA:=
 ⟨cW (aM s.Items id).1 id n.Alphas m.Alphas,rE (u7 s.Items (cW (aM s.Items id).1 id n.Alphas m.Alphas) (aM s.Items id).1 id) d.Rules n.Chains m.Rules⟩
theorem t6 (xs:List aC) (ps ns:List av) (row:List Int):∀ (ids:List Int),(iI xs ps ns row ids).length≤ids.length
 | []=>by simp [iI]
 | v :: ids=>by
  have h1:=t6 xs ps ns row ids
  unfold iI at h1 ⊢
  rw [List.flatMap_cons,List.length_append,List.length_cons]
  have h2:(tD xs ps ns row v).length≤1:=by unfold tD; split <;> simp
  omega
theorem tP (xs:List aC) (ps ns:List av) (ids:List Int):∀ (B:List ab),(B.flatMap fun t=>iI xs ps ns t.Ids ids).length≤B.length*ids.length
 | []=>by simp
 | t :: B=>by
  have h1:=tP xs ps ns ids B
  have h2:=t6 xs ps ns t.Ids ids
  rw [List.flatMap_cons,List.length_append,List.length_cons,Nat.succ_mul]; omega
theorem qw {xs:List aC} {ps ns:List av} {row ids:List Int}:∀ t∈iI xs ps ns row ids,t.Ids.length=row.length+1∧t.Hits.length≤ns.length:=by
 intro t ht
 unfold iI at ht
 obtain ⟨v,_,h⟩:=List.mem_flatMap.1 ht
 unfold tD at h
 split at h
 ·simp only [List.mem_singleton] at h
  subst h
  refine ⟨by simp,?_⟩
  simp only
  split
  ·simp [kh]
  ·simp
 ·cases h
theorem CP (f:aw) (l:List aH) (b:Int):∀ (ns:List av) (h:List Int),(sw f l b ns h).length=h.length
 | p :: ns,x :: h=>by simp [sw,CP f l b ns h]
 | [],h=>by simp [sw]
 | p :: ns,[]=>by simp [sw]
theorem Dl {xs:List aC} {ps ns:List av} {f:aw} {b:Int} (toks:List ab):(ki xs ps ns f b toks).map (·.Ids)=toks.map (·.Ids):=by
 unfold ki
 rw [List.map_map]
 apply List.map_congr_left
 intro t _
 simp only [Function.comp]
 split <;> rfl
theorem xA {xs:List aC} {ps ns:List av} {f:aw} {b:Int} (toks:List ab):(ki xs ps ns f b toks).length=toks.length:=by simp [ki]
theorem ua (xs:List aC) (ps:List av) (ids:List Int):(okB xs ps ids).1.length≤fO ps:=by
 have h1:=A4 (xs:=xs) (ps.take ids.length) ids []
 have h2:fO (ps.take ids.length)≤fO ps:=E5 _ _
 unfold okB
 simp at h1
 omega
theorem zC {N:Nat} (hN:1399000000000≤N) (s:ah) (v:Int) (hl:s.Items.length≤1048576) (hx:∀ x∈s.Items,x.F.Fields.length≤1048576):lD N s v=some (aM s.Items v):=by
 unfold lD
 refine lp0 hN s.Items (by omega) (ga N s v) (fun t=>some (aM t v)) (fun n i x t h1 h2 h3 h4 h5 h6 h7=>?_) (fun n i h1 h2=>?_)
 ·have e:qM N x.F=some x.F:=by
   unfold qM
   rw [iK (show x.F.Fields.length≤1099511627776 by have:=hx x h2; omega)]; rfl
  simp only [ga,h5,if_true,h4,Option.bind_some,h6,h7,e,y5]
  by_cases h:x.Id=v <;> simp [h]
 ·simp only [ga,h2,Bool.false_eq_true,if_false]; rfl
structure SzS (r:ag) (s:ah):Prop where
 pl:r.Pats.length≤1048576
 sa:fO r.Pats≤1048576
 pa:∀ p∈r.Pats,p.Args.length≤1048576
 sl:s.Items.length≤1048576
 fl:∀ x∈s.Items,x.F.Fields.length≤1048576
 fp:pos r.Pats=r.Pats.take (aj r.Pats)
theorem DN {N:Nat} (hN:1399000000000≤N) (r:ag) (s:ah) (hz:SzS r s) (ids:List Int) (hi:ids.length≤aj r.Pats) :
  ∃ l,iW N r s ids=some (l,(okB s.Items (pos r.Pats) ids).2)∧((okB s.Items (pos r.Pats) ids).2=true→l=(okB s.Items (pos r.Pats) ids).1)∧l.length≤1048576:=by
 have hpc:=gX r.Pats
 have hpl:=hz.pl
 unfold iW
 have lp:∀ (n i:Nat) (l:List aH),i≤ids.length→ids.length - i < n→l.length+fO (r.Pats.drop i)≤1048576 →
   ∃ q,eh N r s ids n l i=some (q,(gF s.Items ((r.Pats.take ids.length).drop i) (ids.drop i) l).2)∧((gF s.Items ((r.Pats.take ids.length).drop i) (ids.drop i) l).2=true→q=(gF s.Items ((r.Pats.take ids.length).drop i) (ids.drop i) l).1)∧q.length≤1048576:=by
  intro n
  induction n with
  | zero=>intro i _ _ h; omega
  | succ n ih=>
   intro i l h1 hn hl
   by_cases hlt:i < ids.length
   ·have c1:decide ((i:Int) < (ids.length:Int))=true:=decide_eq_true (by omega)
    have hlt':i < r.Pats.length:=by omega
    have hlt2:i < (r.Pats.take ids.length).length:=by rw [List.length_take]; omega
    rw [List.drop_eq_getElem_cons hlt'] at hl
    rw [iS] at hl
    have hml:=tH r.Pats[i] (aM s.Items ids[i]).1 l
    rw [List.drop_eq_getElem_cons hlt,List.drop_eq_getElem_cons hlt2,gF,List.getElem_take]
    simp only [eh,c1,if_true,an hlt,Option.bind_some,zC hN s _ hz.sl hz.fl,lx,an hlt']
    rw [show (⟨(aM s.Items ids[i]).1.Kind,(aM s.Items ids[i]).1.Fields⟩:aw)=(aM s.Items ids[i]).1 from rfl,HM hN r.Pats[i] _ l (hz.pa _ (List.getElem_mem hlt')) (show l.length≤2147483648 by omega)]
    simp only [Option.bind_some,wr1 i (by omega)]
    cases (aM s.Items ids[i]).2 with
    | false=>exact ⟨l,by simp,by simp,by omega⟩
    | true=>
     cases hm:(cb r.Pats[i] (aM s.Items ids[i]).1 l).2 with
     | false=>exact ⟨l,by simp,by simp,by omega⟩
     | true=>
      simp only [Bool.not_true,Bool.false_eq_true,if_false,and_self,if_true,Option.bind_some]
      exact ih (i+1) _ (by omega) (by omega) (by omega)
   ·have c1:decide ((i:Int) < (ids.length:Int))=false:=decide_eq_false (by omega)
    simp only [eh,c1,Bool.false_eq_true,if_false]
    rw [List.drop_of_length_le (show (r.Pats.take ids.length).length≤i by rw [List.length_take]; omega),List.drop_of_length_le (show ids.length≤i by omega)]
    exact ⟨l,by simp [gF],by simp [gF],by omega⟩
 obtain ⟨q,h1,h2,h3⟩:=lp N 0 [] (by omega) (by omega) (by simpa using hz.sa)
 have e:(pos r.Pats).take ids.length=r.Pats.take ids.length:=by rw [hz.fp,List.take_take]; congr 1; omega
 unfold okB
 rw [e]
 simp only [List.drop_zero] at h1 h2
 exact ⟨q,h1,h2,h3⟩
def rd (ns:List av) (f:aw) (l:List aH):List Int:=ns.map fun p=>if (cb p f l).2=true then 1 else 0
theorem L7 {N:Nat} (hN:1399000000000≤N) (r:ag) (f:aw) (l:List aH) (hp:r.Pats.length≤1048576) (pa:∀ p∈r.Pats,p.Args.length≤1048576) (hl:l.length≤1048576):nC N r f l=some (rd (neg r.Pats) f l):=by
 unfold nC
 refine (lp' hN r.Pats (by omega) (fun n (u:List Int) i=>de N r f l n u i) (fun t u=>some (u++rd (neg t) f l)) (fun u t=>u.length+t.length≤1048576) [] (by simpa using hp) (fun n u i p t g1 g2 g3 g4 g5 g6 gI gh=>?_) (fun n u i g1 g2 gI=>?_)).trans (by simp)
 ·simp only [List.length_cons] at gI
  have hneg:neg (p :: t)=if p.Not then p :: neg t else neg t:=by unfold neg; rw [List.filter_cons]
  simp only [de,g5,if_true,g4,Option.bind_some,HM hN p f l (pa p g2) (show l.length≤2147483648 by omega)]
  rw [hneg]
  cases hn:p.Not with
  | false=>simp only [Bool.false_eq_true,if_false,g6]; exact gh u (by omega)
  | true=>
   simp only [if_true]
   cases hm:(cb p f l).2 with
   | true=>
    simp only [if_true,hH,bS (show u.length+[(1:Int)].length≤1099511627776 by simp; omega),Option.bind_some,g6]
    rw [gh _ (by simp; omega)]; simp [rd,hm]
   | false=>
    simp only [Bool.false_eq_true,if_false,hH,bS (show u.length+[(0:Int)].length≤1099511627776 by simp; omega),Option.bind_some,g6]
    rw [gh _ (by simp; omega)]; simp [rd,hm]
 ·simp only [de,g2,Bool.false_eq_true,if_false]; simp [neg,rd]
def kJ (xs:List aC) (ps:List av) (row:List Int) (id:Int):List ab:=if (okB xs ps (row++[id])).2=true then [⟨row++[id],[]⟩] else []
theorem GM {N:Nat} (hN:1399000000000≤N) (r:ag) (s:ah) (hz:SzS r s) (out:List ab) (row:List Int) (id:Int) (hr:row.length+1≤aj r.Pats) (ho:out.length+1≤1099511627776) :
  kl N out r s row id=some (out++kJ s.Items (pos r.Pats) row id):=by
 have hpc:=gX r.Pats
 have hpl:=hz.pl
 obtain ⟨l,h1,h2,h3⟩:=DN hN r s hz (row++[id]) (by simp; omega)
 unfold kl kJ
 simp only [iK (show row.length≤1099511627776 by omega),Option.bind_some,bS (show row.length+[id].length≤1099511627776 by simp; omega),h1]
 cases (okB s.Items (pos r.Pats) (row++[id])).2 with
 | false=>simp
 | true=>simp [bS (show out.length+[(⟨row++[id],[]⟩:ab)].length≤1099511627776 by simpa using ho)]
def If:List Int→List Int→List Int
 | x :: a,y :: b=>(x+y) :: If a b
 | a,_=>a
theorem HW (ns:List av) (l:List aH) (xs:List aC) (x:aC):If (kh xs ns l) (rd ns x.F l)=kh (xs++[x]) ns l:=by
 induction ns with
 | nil=>rfl
 | cons p ns ih=>
  unfold kh rd at ih ⊢
  simp only [List.map_cons,If,ih]
  congr 1
  unfold Ec
  rw [List.countP_append]
  cases hm:(cb p x.F l).2 with
  | true=>simp [hm]
  | false=>simp [hm]
theorem Dt {N:Nat} (s2:Int) (K:List Int→Int→Option ab) (x5:List Int) (hx:x5.length≤1048576) (h01:∀ y∈x5,0≤y∧y≤1):∀ (b:List Int) (n:Nat) (db da a:List Int),b.length < n→x5=db++b→da.length=db.length→a.length=b.length→(∀ x∈a,0≤x∧x≤1048576) →
  ek N s2 K x5 n (da++a) (db.length:Int)=K (da++If a b) (IntKind.i64.wrap (s2+1))
 | [],n,db,da,a,hn,h1,h2,h3,h4=>by
  obtain ⟨n,rfl⟩:∃ m,n=m+1:=⟨n - 1,by simp at hn; omega⟩
  have c1:decide ((db.length:Int) < (x5.length:Int))=false:=decide_eq_false (by rw [h1]; simp)
  have:a=[]:=List.length_eq_zero_iff.1 (by simpa using h3)
  subst this
  simp only [ek,c1,Bool.false_eq_true,if_false,If]
 | y :: b,n,db,da,[],hn,h1,h2,h3,h4=>by simp at h3
 | y :: b,n,db,da,x :: a,hn,h1,h2,h3,h4=>by
  obtain ⟨n,rfl⟩:∃ m,n=m+1:=⟨n - 1,by omega⟩
  simp only [List.length_cons] at hn h3
  have hl:x5.length=db.length+(b.length+1):=by rw [h1]; simp
  have c1:decide ((db.length:Int) < (x5.length:Int))=true:=decide_eq_true (by omega)
  have e1:idx x5 (db.length:Int)=some y:=by rw [h1,cq]; simp
  have e2:idx (da++x :: a) (db.length:Int)=some x:=by rw [← h2,cq]; simp
  have hx1:=h4 x (by simp)
  have hy1:=h01 y (by rw [h1]; simp)
  have e3:IntKind.i64.wrap (x+y)=x+y:=wr (by omega) (by omega)
  have e4:(da++x :: a).set ((db.length:Int)).toNat (x+y)=(da++[x+y])++a:=by
   rw [Int.toNat_natCast,← h2,List.set_append_right _ _ (Nat.le_refl _),Nat.sub_self,List.set_cons_zero,List.append_assoc]; rfl
  simp only [ek,c1,if_true,e1,e2,Option.bind_some,e3,e4,wr1 db.length (by omega)]
  have:=Dt (N:=N) s2 K x5 hx h01 b n (db++[y]) (da++[x+y]) a (by omega) (by rw [h1]; simp) (by simp [h2]) (by omega) (fun z hz=>h4 z (by simp [hz]))
  simp only [List.length_append,List.length_cons,List.length_nil,Nat.zero_add] at this
  rw [this,If]
  simp
theorem Jk {N:Nat} (hN:1399000000000≤N) (r:ag) (s:ah) (hz:SzS r s) (t:ab) (ht:t.Ids.length≤aj r.Pats) (hok:(okB s.Items (pos r.Pats) t.Ids).2=true) :
  mC N r s t=some ⟨t.Ids,kh s.Items (neg r.Pats) (okB s.Items (pos r.Pats) t.Ids).1⟩:=by
 have hpc:=gX r.Pats
 have hpl:=hz.pl
 have hsl:=hz.sl
 obtain ⟨l,h1,h2,h3⟩:=DN hN r s hz t.Ids ht
 obtain rfl:=h2 hok
 have hn1:=zZ r.Pats
 have hn2:=tL r.Pats
 have hnl:(neg r.Pats).length=r.Pats.length - aj r.Pats:=by unfold neg; omega
 have ew:IntKind.i64.wrap ((r.Pats.length:Int) - (aj r.Pats:Int))=((r.Pats.length - aj r.Pats:Nat):Int):=by
  rw [show ((r.Pats.length:Int) - (aj r.Pats:Int))=((r.Pats.length - aj r.Pats:Nat):Int) by omega]
  exact wr (by omega) (by omega)
 unfold mC
 rw [h1,Option.bind_some,Hv hN r hz.pl,Option.bind_some,ew,kR _ (by omega),Option.bind_some]
 have e0:List.replicate (r.Pats.length - aj r.Pats) (0:Int)=kh [] (neg r.Pats) (okB s.Items (pos r.Pats) t.Ids).1:=by
  rw [← hnl]
  unfold kh Ec
  apply List.ext_getElem
  ·simp
  ·intro i h1 h2; simp
 rw [e0]
 have lp:∀ (zs:List aC) (n:Nat) (dz:List aC),zs.length < n→s.Items=dz++zs →
   cN N r s t ((okB s.Items (pos r.Pats) t.Ids).1,(okB s.Items (pos r.Pats) t.Ids).2) n (kh dz (neg r.Pats) (okB s.Items (pos r.Pats) t.Ids).1) (dz.length:Int)=some ⟨t.Ids,kh s.Items (neg r.Pats) (okB s.Items (pos r.Pats) t.Ids).1⟩:=by
  intro zs
  induction zs with
  | nil=>
   intro n dz hn he
   obtain ⟨n,rfl⟩:∃ m,n=m+1:=⟨n - 1,by simp at hn; omega⟩
   have he':s.Items=dz:=by simpa using he
   have c1:decide ((dz.length:Int) < (s.Items.length:Int))=false:=decide_eq_false (by rw [he']; simp)
   simp only [cN,c1,Bool.false_eq_true,if_false]
   rw [← he']
  | cons z zs ih=>
   intro n dz hn he
   obtain ⟨n,rfl⟩:∃ m,n=m+1:=⟨n - 1,by omega⟩
   simp only [List.length_cons] at hn
   have hl:s.Items.length=dz.length+(zs.length+1):=by rw [he]; simp
   have c1:decide ((dz.length:Int) < (s.Items.length:Int))=true:=decide_eq_true (by omega)
   have e1:idx s.Items (dz.length:Int)=some z:=by rw [he,cq]; simp
   simp only [cN,c1,if_true,e1,Option.bind_some,L7 hN r z.F _ hz.pl hz.pa h3]
   have h4:=Dt (N:=N) (dz.length:Int) (cN N r s t ((okB s.Items (pos r.Pats) t.Ids).1,(okB s.Items (pos r.Pats) t.Ids).2) n) (rd (neg r.Pats) z.F (okB s.Items (pos r.Pats) t.Ids).1) (by simp [rd]; omega)
    (fun y hy=>by unfold rd at hy; obtain ⟨p,_,rfl⟩:=List.mem_map.1 hy; split <;> omega) (rd (neg r.Pats) z.F (okB s.Items (pos r.Pats) t.Ids).1) N [] [] (kh dz (neg r.Pats) (okB s.Items (pos r.Pats) t.Ids).1) (by simp [rd]; omega) rfl rfl (by simp [rd,kh])
    (fun y hy=>by unfold kh at hy; obtain ⟨p,_,rfl⟩:=List.mem_map.1 hy; have:=KD p (okB s.Items (pos r.Pats) t.Ids).1 dz; omega)
   simp only [List.nil_append,List.length_nil,Int.natCast_zero] at h4
   have h4':ek N (dz.length:Int) (cN N r s t ((okB s.Items (pos r.Pats) t.Ids).1,(okB s.Items (pos r.Pats) t.Ids).2) n) (rd (neg r.Pats) z.F (okB s.Items (pos r.Pats) t.Ids).1) N (kh dz (neg r.Pats) (okB s.Items (pos r.Pats) t.Ids).1) 0=_:=h4
   rw [h4',HW,wr1 dz.length (by omega)]
   have:=ih n (dz++[z]) (by omega) (by rw [he]; simp)
   simp only [List.length_append,List.length_cons,List.length_nil,Nat.zero_add] at this
   exact this
 have:=lp s.Items N [] (by omega) rfl
 simpa using this
theorem M0 {N:Nat} (hN:1399000000000≤N) (p:List aH) (n:ByteArray) (hl:p.length≤1099511627776):rY N p n=some (xk p n):=by
 unfold rY
 have:∀ (k i:Nat),i≤p.length→p.length - i < k→i9 N p n k i=some (xk (p.drop i) n):=by
  intro k
  induction k with
  | zero=>intro i _ h; omega
  | succ k ih=>
   intro i hi hk
   simp only [i9]
   by_cases hlt:i < p.length
   ·have c1:decide ((i:Int) < (p.length:Int))=true:=decide_eq_true (by omega)
    rw [List.drop_eq_getElem_cons hlt,CS]
    simp only [c1,if_true,an hlt,Option.bind_some,wr1 i (by omega),ih (i+1) (by omega) (by omega)]
    cases seq p[i].Name n <;> rfl
   ·have c1:decide ((i:Int) < (p.length:Int))=false:=decide_eq_false (by omega)
    simp only [c1,Bool.false_eq_true,if_false]
    rw [List.drop_of_length_le (by omega)]; rfl
 exact this N 0 (by omega) (by omega)
theorem FI {N:Nat} (hN:1399000000000≤N) (p:av) (f:aw) (b:List aH) (he:p.Args.length=f.Fields.length) (hl:p.Args.length≤1048576) (hb:b.length≤2147483648):∀ (n i:Nat) (s:List aH),i≤p.Args.length→p.Args.length - i < n→s.length≤2147483648+i →
  dl N p f b n s i=some (dC b (p.Args.drop i) (f.Fields.drop i) s):=by
 intro n
 induction n with
 | zero=>intro i s _ h; omega
 | succ n ih=>
  intro i s hi hn hs
  simp only [dl]
  by_cases hlt:i < p.Args.length
  ·have c1:decide ((i:Int) < (p.Args.length:Int))=true:=decide_eq_true (by omega)
   have hlt':i < f.Fields.length:=by omega
   rw [List.drop_eq_getElem_cons hlt,List.drop_eq_getElem_cons hlt',dC]
   simp only [c1,if_true,an hlt,an hlt',Option.bind_some,M0 hN s _ (show s.length≤1099511627776 by omega),bw,iK (show b.length≤1099511627776 by omega),bS (show s.length+[(⟨p.Args[i].S,f.Fields[i]⟩:aH)].length≤1099511627776 by simp; omega),wr1 i (by omega),oA,orS]
   have ih1:=ih (i+1) s (by omega) (by omega) (by omega)
   have ih2:=ih (i+1) (s++[⟨p.Args[i].S,f.Fields[i]⟩]) (by omega) (by omega) (by simp; omega)
   by_cases k2:p.Args[i].K=2
   ·have k1 : ¬ p.Args[i].K=1:=by omega
    simp only [k2,k1,decide_true,decide_false,if_true,if_false,Bool.true_and,Bool.false_and,Bool.or_false,Bool.false_eq_true,Option.bind_some,show ¬ (2:Int)=1 by omega]
    cases bp p.Args[i].V f.Fields[i] with
    | true=>simpa using ih1
    | false=>simp
   ·by_cases k1:p.Args[i].K=1
    ·simp only [k1,decide_true,decide_false,if_true,if_false,Bool.true_and,Bool.false_and,Bool.false_or,Bool.false_eq_true,Option.bind_some,show ¬ (1:Int)=2 by omega]
     cases (xk s p.Args[i].S).2 with
     | true=>
      simp only [if_true,Bool.not_true,Bool.true_and,Bool.false_eq_true,if_false]
      cases bp (xk s p.Args[i].S).1 f.Fields[i] with
      | true=>simpa using ih1
      | false=>simp
     | false=>simpa using ih2
    ·simp only [k1,k2,decide_false,if_false,Bool.false_and,Bool.false_or,Bool.or_false,Bool.false_eq_true,Option.bind_some]
     simpa using ih1
  ·have c1:decide ((i:Int) < (p.Args.length:Int))=false:=decide_eq_false (by omega)
   simp only [c1,Bool.false_eq_true,if_false]
   rw [List.drop_of_length_le (by omega)]
   rfl
theorem Ic (a b:ByteArray):seq a b=seq b a:=by rw [dA,dA]; simp [eq_comm]
theorem E9 {N:Nat} (hN:1399000000000≤N) (p:av) (f:aw) (b:List aH) (hl:p.Args.length≤1048576) (hb:b.length≤2147483648):iM N p f b=some (cb p f b):=by
 unfold iM cb bw
 rw [iK (by omega),Ic f.Kind p.Kind]
 simp only [Option.bind_some,orS]
 cases hk:seq p.Kind f.Kind with
 | false=>simp
 | true=>
  by_cases he:p.Args.length=f.Fields.length
  ·have he':decide ((f.Fields.length:Int)=(p.Args.length:Int))=true:=decide_eq_true (by omega)
   have:=(FI hN p f b he hl hb N 0 b (by omega) (by omega) (by omega))
   simp only [he',he,Bool.not_true,Bool.or_false,Bool.false_eq_true,if_false,true_and,if_true]
   simpa using this
  ·have he':decide ((f.Fields.length:Int)=(p.Args.length:Int))=false:=decide_eq_false (by omega)
   simp [he',he]
theorem wG {N:Nat} (hN:1399000000000≤N) (s:ah) (v:Int) (hl:s.Items.length≤1048576) (hx:∀ x∈s.Items,x.F.Fields.length≤1048576):jW N s v=some (aM s.Items v):=by
 unfold jW
 refine lp0 hN s.Items (by omega) (ge N s v) (fun t=>some (aM t v)) (fun n i x t h1 h2 h3 h4 h5 h6 h7=>?_) (fun n i h1 h2=>?_)
 ·have e:mM N x.F=some x.F:=by
   unfold mM fv
   rw [iK (show x.F.Fields.length≤1099511627776 by have:=hx x h2; omega)]; rfl
  simp only [ge,h5,if_true,h4,Option.bind_some,h6,h7,e,y5]
  by_cases h:x.Id=v <;> simp [h]
 ·simp only [ge,h2,Bool.false_eq_true,if_false]; rfl
theorem Gg {N:Nat} (hN:1399000000000≤N) (ps:List av) (s:ah) (ids:List Int) (ha:fO ps≤1048576) (hp:∀ p∈ps,p.Args.length≤1048576) (hs:s.Items.length≤1048576) (hx:∀ x∈s.Items,x.F.Fields.length≤1048576) (hi:ids.length≤1048576) (he:ids.length≤ps.length) :
  mf N ps s ids=some (gF s.Items (ps.take ids.length) ids []):=by
 unfold mf
 have lp:∀ (n i:Nat) (l:List aH),i≤ids.length→ids.length - i < n→l.length+fO (ps.drop i)≤1048576→gv N ps s ids n l i=some (gF s.Items ((ps.take ids.length).drop i) (ids.drop i) l):=by
  intro n
  induction n with
  | zero=>intro i _ _ h; omega
  | succ n ih=>
   intro i l h1 hn hl
   by_cases hlt:i < ids.length
   ·have c1:decide ((i:Int) < (ids.length:Int))=true:=decide_eq_true (by omega)
    have hlt':i < ps.length:=by omega
    have hlt2:i < (ps.take ids.length).length:=by rw [List.length_take]; omega
    rw [List.drop_eq_getElem_cons hlt'] at hl
    rw [iS] at hl
    have hml:=tH ps[i] (aM s.Items ids[i]).1 l
    rw [List.drop_eq_getElem_cons hlt,List.drop_eq_getElem_cons hlt2,gF,List.getElem_take]
    simp only [gv,c1,if_true,an hlt,an hlt',Option.bind_some,wG hN s _ hs hx,E9 hN ps[i] _ l (hp _ (List.getElem_mem hlt')) (show l.length≤2147483648 by omega),wr1 i (by omega)]
    cases (aM s.Items ids[i]).2 with
    | false=>simp
    | true=>
     cases (cb ps[i] (aM s.Items ids[i]).1 l).2 with
     | false=>simp
     | true=>
      simp only [Bool.not_true,Bool.false_eq_true,if_false,and_self,if_true]
      exact ih (i+1) _ (by omega) (by omega) (by omega)
   ·have c1:decide ((i:Int) < (ids.length:Int))=false:=decide_eq_false (by omega)
    simp only [gv,c1,Bool.false_eq_true,if_false]
    rw [List.drop_of_length_le (show (ps.take ids.length).length≤i by rw [List.length_take]; omega),List.drop_of_length_le (show ids.length≤i by omega)]; rfl
 have:=lp N 0 [] (by omega) (by omega) (by simpa using ha)
 simpa using this
theorem Md {N:Nat} (hN:1399000000000≤N) (p:av) (s:ah) (l:List aH) (hp:p.Args.length≤1048576) (hs:s.Items.length≤1048576) (hb:l.length≤2147483648):qD N p s l=some (Ec p l s.Items:Int):=by
 unfold qD
 have:=lp' hN s.Items (by omega) (eX N p s l) (fun t k=>some (k+(Ec p l t:Int))) (fun k t=>0≤k∧k+t.length≤1048576) (0:Int) (by simp; omega) (fun n k i x t h1 h2 h3 h4 h5 h6 hI ih=>by
  simp only [List.length_cons] at hI
  simp only [eX,h5,if_true,h4,Option.bind_some,E9 hN p x.F l hp hb,h6]
  unfold Ec at ih ⊢
  rw [List.countP_cons]
  cases (cb p x.F l).2 with
  | true=>
   rw [wr (n:=k+1) (by omega) (by omega)]
   simp only [if_true,ih (k+1) (by omega)]; congr 1; omega
  | false=>simpa using ih k (by omega)) (fun n k i h1 h2 hI=>by simp only [eX,h2,Bool.false_eq_true,if_false,Ec]; simp)
 simpa using this
structure SzG (g:cA):Prop where
 pl:g.pos.length≤1048576
 sa:fO g.pos≤1048576
 pa:∀ p∈g.pos,p.Args.length≤1048576
 nl:g.neg.length≤1048576
 na:∀ p∈g.neg,p.Args.length≤1048576
 sl:g.s.Items.length≤1048576
 fl:∀ x∈g.s.Items,x.F.Fields.length≤1048576
theorem Iv {N:Nat} (hN:1399000000000≤N) (g:cA) (hz:SzG g) (s1:List ab) (s2:Int) (K:List ab→Int→Option (List ab)) (x3:List Int) (x4:List aH × Bool) (hb:x4.1.length≤2147483648) :
  ce N g s1 s2 K x3 x4 N [] 0=bY N s1 s2 K x3 (kh g.s.Items g.neg x4.1):=by
 have hnl:=hz.nl
 refine (lp' hN g.neg (by omega) (fun n (u:List Int) i=>ce N g s1 s2 K x3 x4 n u i) (fun t u=>bY N s1 s2 K x3 (u++kh g.s.Items t x4.1)) (fun u t=>u.length+t.length≤1048576) [] (by simpa using hz.nl) (fun n u i p t g1 g2 g3 g4 g5 g6 gI gh=>?_) (fun n u i g1 g2 gI=>?_)).trans (by simp)
 ·simp only [List.length_cons] at gI
  simp only [ce,g5,if_true,g4,Option.bind_some,Md hN p g.s x4.1 (hz.na p g2) hz.sl hb,bS (show u.length+[((Ec p x4.1 g.s.Items:Nat):Int)].length≤1099511627776 by simp; omega),g6]
  rw [gh _ (by simp; omega)]
  simp [kh]
 ·simp only [ce,g2,Bool.false_eq_true,if_false]; simp [kh]
theorem AL {N:Nat} (hN:1399000000000≤N) (g:cA) (hz:SzG g) (row ids:List Int) (hr:row.length+1≤g.pos.length) (hi:ids.length≤1099511627776) :
  dT N g row ids=some (iI g.s.Items g.pos g.neg row ids):=by
 have hpl:=hz.pl
 unfold dT
 refine (lp' hN ids hi (fun n (u:List ab) i=>bq N g row ids n u i) (fun t u=>some (u++iI g.s.Items g.pos g.neg row t)) (fun u t=>u.length+t.length≤1099511627776) [] (by simpa using hi) (fun n u i v t g1 g2 g3 g4 g5 g6 gI gh=>?_) (fun n u i g1 g2 gI=>?_)).trans (by simp)
 ·simp only [List.length_cons] at gI
  have hrow:(row++[v]).length=row.length+1:=by simp
  have hbl:=ua g.s.Items g.pos (row++[v])
  have hsa:=hz.sa
  have e0:gF g.s.Items (g.pos.take (row++[v]).length) (row++[v]) []=okB g.s.Items g.pos (row++[v]):=rfl
  simp only [bq,g5,if_true,g4,Option.bind_some,bT,iK (show row.length≤1099511627776 by omega),bS (show row.length+[v].length≤1099511627776 by simp; omega),
   Gg hN g.pos g.s (row++[v]) hz.sa hz.pa hz.sl hz.fl (by omega) (by omega),e0,iI,List.flatMap_cons]
  have hlong:(t.flatMap fun b=>tD g.s.Items g.pos g.neg row b)=iI g.s.Items g.pos g.neg row t:=rfl
  cases hok:(okB g.s.Items g.pos (row++[v])).2 with
  | false=>
   have e1:tD g.s.Items g.pos g.neg row v=[]:=by unfold tD; rw [hok]; simp
   simp only [Bool.not_false,if_true,g6,e1,List.nil_append]
   exact gh u (by omega)
  | true=>
   simp only [Bool.not_true,Bool.false_eq_true,if_false]
   by_cases hl:row.length+1=g.pos.length
   ·have c1:decide (((row++[v]).length:Int)=(g.pos.length:Int))=true:=decide_eq_true (by rw [hrow]; omega)
    have e1:tD g.s.Items g.pos g.neg row v=[⟨row++[v],kh g.s.Items g.neg (okB g.s.Items g.pos (row++[v])).1⟩]:=by unfold tD; rw [hok,if_pos rfl,if_pos hl]
    simp only [c1,if_true,Iv hN g hz u _ _ _ _ (show (okB g.s.Items g.pos (row++[v])).1.length≤2147483648 by omega),bY,bS (show u.length+[(⟨row++[v],kh g.s.Items g.neg (okB g.s.Items g.pos (row++[v])).1⟩:ab)].length≤1099511627776 by simp; omega),Option.bind_some,g6,e1]
    rw [gh _ (by simp; omega),List.append_assoc]; rfl
   ·have c1:decide (((row++[v]).length:Int)=(g.pos.length:Int))=false:=decide_eq_false (by rw [hrow]; omega)
    have e1:tD g.s.Items g.pos g.neg row v=[⟨row++[v],[]⟩]:=by unfold tD; rw [hok,if_pos rfl,if_neg hl]
    simp only [c1,Bool.false_eq_true,if_false,bY,bS (show u.length+[(⟨row++[v],[]⟩:ab)].length≤1099511627776 by simp; omega),Option.bind_some,g6,e1]
    rw [gh _ (by simp; omega),List.append_assoc]; rfl
 ·simp only [bq,g2,Bool.false_eq_true,if_false]; simp [iI]
def vl (A:Nat→Nat):Nat→List Nat→Nat→Nat→Prop
 | _,[],_,_=>True
 | k,l :: ls,b,f=>(if k=0 then 1 else b+f*A k)+l≤1099511627776∧vl A (k+1) ls l (if k=0 then 1 else b+f*A k)
theorem uX {A:Nat→Nat}:∀ {ls:List Nat} {k b f b' f':Nat},vl A k ls b f→b'≤b→f'≤f→vl A k ls b' f'
 | [],_,_,_,_,_,_,_,_=>trivial
 | l :: ls,k,b,f,b',f',h,hb,hf=>by
  have hm:(if k=0 then 1 else b'+f'*A k)≤(if k=0 then 1 else b+f*A k):=by
   split
   ·exact Nat.le_refl _
   ·exact Nat.add_le_add hb (Nat.mul_le_mul_right _ hf)
  exact ⟨Nat.le_trans (Nat.add_le_add_right hm l) h.1,uX h.2 (Nat.le_refl _) hm⟩
theorem xr (xs:List aC) (ps ns:List av) (id:Int) (k:Nat) (B F:List ab) (A:List Int):(kH xs ps ns id k B F A).length≤(if k=0 then 1 else B.length+F.length*A.length):=by
 unfold kH
 split
 ·exact t6 xs ps ns [] [id]
 ·have h1:=tP xs ps ns [id] B
  have h2:=tP xs ps ns A F
  simp only [List.length_append,List.length_cons,List.length_nil,Nat.zero_add,Nat.mul_one] at h1 h2 ⊢
  omega
theorem xd {xs:List aC} {ps ns:List av} {id:Int} {k:Nat} {B F:List ab} {A:List Int} (hB:∀ t∈B,t.Ids.length=k) (hF:∀ t∈F,t.Ids.length=k):∀ t∈kH xs ps ns id k B F A,t.Ids.length=k+1:=by
 intro t ht
 unfold kH at ht
 split at ht
 ·rename_i hk
  rw [(qw t ht).1,hk]; rfl
 ·rcases List.mem_append.1 ht with h | h
  ·obtain ⟨u,hu,h⟩:=List.mem_flatMap.1 h
   rw [(qw t h).1,hB u hu]
  ·obtain ⟨u,hu,h⟩:=List.mem_flatMap.1 h
   rw [(qw t h).1,hF u hu]
theorem K0 {N:Nat} (hN:1399000000000≤N) (g:cA) (hz:SzG g) (s1:List aa) (F:List ab) (k:Nat) (K:List aa→List ab→List ab→Int→Option (List aa)) (a:Int) (A:aS) (ha:idx g.chain.Pos (k:Int)=some a) (hA:idx g.alphas a=some A) (hk:k+1≤g.pos.length)
  (hF:∀ t∈F,t.Ids.length=k) (u0:List ab) (hl:u0.length+F.length*A.L.length≤1099511627776) (hAl:A.L.length≤1099511627776) (hFl:F.length≤1099511627776) :
  cJ N g s1 F (k:Int) K N u0 0=bO N s1 (k:Int) K (u0++F.flatMap fun t=>iI g.s.Items g.pos g.neg t.Ids A.L):=by
 refine lp' hN F hFl (fun n (u:List ab) i=>cJ N g s1 F (k:Int) K n u i) (fun t u=>bO N s1 (k:Int) K (u++t.flatMap fun t=>iI g.s.Items g.pos g.neg t.Ids A.L)) (fun u t=>u.length+t.length*A.L.length≤1099511627776) u0 hl (fun n u i v t g1 g2 g3 g4 g5 g6 gI gh=>?_) (fun n u i g1 g2 gI=>?_)
 ·rw [List.length_cons,Nat.succ_mul] at gI
  have h1:=t6 g.s.Items g.pos g.neg v.Ids A.L
  simp only [cJ,g5,if_true,g4,Option.bind_some,ha,hA,AL hN g hz v.Ids A.L (by rw [hF v g2]; exact hk) hAl,bS (show u.length+(iI g.s.Items g.pos g.neg v.Ids A.L).length≤1099511627776 by omega),g6]
  rw [gh _ (by rw [List.length_append]; omega),List.flatMap_cons,List.append_assoc]
 ·simp only [cJ,g2,Bool.false_eq_true,if_false]; simp
theorem Kj {N:Nat} (hN:1399000000000≤N) (g:cA) (hz:SzG g) (s1:List aa) (B F:List ab) (k:Nat) (K:List aa→List ab→List ab→Int→Option (List aa)) (a:Int) (A:aS) (ha:idx g.chain.Pos (k:Int)=some a) (hA:idx g.alphas a=some A) (hk:k+1≤g.pos.length)
  (hB:∀ t∈B,t.Ids.length=k) (hF:∀ t∈F,t.Ids.length=k) (hl:B.length+F.length*A.L.length≤1099511627776) (hAl:A.L.length≤1099511627776) (hFl:F.length≤1099511627776) :
  cE N g s1 B F (k:Int) K N [] 0=bO N s1 (k:Int) K ((B.flatMap fun t=>iI g.s.Items g.pos g.neg t.Ids [g.id])++F.flatMap fun t=>iI g.s.Items g.pos g.neg t.Ids A.L):=by
 refine (lp' hN B (by omega) (fun n (u:List ab) i=>cE N g s1 B F (k:Int) K n u i) (fun t u=>bO N s1 (k:Int) K (u++(t.flatMap fun t=>iI g.s.Items g.pos g.neg t.Ids [g.id])++F.flatMap fun t=>iI g.s.Items g.pos g.neg t.Ids A.L)) (fun u t=>u.length+t.length+F.length*A.L.length≤1099511627776) [] (by simpa using hl) (fun n u i v t g1 g2 g3 g4 g5 g6 gI gh=>?_) (fun n u i g1 g2 gI=>?_)).trans (by simp)
 ·rw [List.length_cons] at gI
  have h1:=t6 g.s.Items g.pos g.neg v.Ids [g.id]
  simp only [List.length_cons,List.length_nil,Nat.zero_add] at h1
  simp only [cE,g5,if_true,g4,Option.bind_some,AL hN g hz v.Ids [g.id] (by rw [hB v g2]; exact hk) (by simp),bS (show u.length+(iI g.s.Items g.pos g.neg v.Ids [g.id]).length≤1099511627776 by omega),g6]
  rw [gh _ (by rw [List.length_append]; omega),List.flatMap_cons]
  simp only [List.append_assoc]
 ·simp only [cE,g2,Bool.false_eq_true,if_false]
  simp only [List.length_nil,Nat.add_zero] at gI
  rw [K0 hN g hz s1 F k K a A ha hA hk hF u gI hAl hFl]; simp
theorem Hj {N:Nat} (hN:1399000000000≤N) (g:cA) (hz:SzG g) (p1:List aa) (A:Nat→List Int) (hp:p1.length≤g.pos.length) (hA:∀ k,k < p1.length→∃ a i,idx g.chain.Pos (k:Int)=some a∧idx g.alphas a=some i∧i.L=A k) (hAl:∀ k,(A k).length≤1099511627776) :
  ∀ (rest:List aa) (n:Nat) (done:List aa) (B F:List ab),rest.length < n→done.length+rest.length=p1.length→(∀ t∈B,t.Ids.length=done.length)→(∀ t∈F,t.Ids.length=done.length)→(∀ i L,rest[i]?=some L→∀ t∈L.Toks,t.Ids.length=done.length+1+i) →
   F.length≤1099511627776→vl (fun k=>(A k).length) done.length (rest.map (·.Toks.length)) B.length F.length→bv N g p1 n (done++rest) B F (done.length:Int)=some (done++pK g.s.Items g.pos g.neg g.id A done.length rest B F)
 | [],n,done,B,F,hn,hd,hB,hF,hL,hFl,hf=>by
  obtain ⟨n,rfl⟩:∃ m,n=m+1:=⟨n - 1,by simp at hn; omega⟩
  simp only [List.length_nil,Nat.add_zero] at hd
  have c1:decide ((done.length:Int) < (p1.length:Int))=false:=decide_eq_false (by omega)
  simp only [bv,c1,Bool.false_eq_true,if_false,pK]
 | L :: Ls,n,done,B,F,hn,hd,hB,hF,hL,hFl,hf=>by
  obtain ⟨n,rfl⟩:∃ m,n=m+1:=⟨n - 1,by omega⟩
  simp only [List.length_cons] at hn hd
  obtain ⟨hf1,hf2⟩:=hf
  simp only at hf1 hf2
  have hpl:=hz.pl
  have c1:decide ((done.length:Int) < (p1.length:Int))=true:=decide_eq_true (by omega)
  obtain ⟨a,i,ha,hi,hiA⟩:=hA done.length (by omega)
  have hml:=xr g.s.Items g.pos g.neg g.id done.length B F (A done.length)
  have hmi:=xd (xs:=g.s.Items) (ps:=g.pos) (ns:=g.neg) (id:=g.id) (A:=A done.length) hB hF
  -- the end of a round
  have key:∀ M,M=kH g.s.Items g.pos g.neg g.id done.length B F (A done.length)→bO N (done++L :: Ls) (done.length:Int) (bv N g p1 n) M=some (done++pK g.s.Items g.pos g.neg g.id A done.length (L :: Ls) B F):=by
   intro M hM
   subst hM
   have e1:idx (done++L :: Ls) (done.length:Int)=some L:=by rw [cq]; simp
   have e2:(done++L :: Ls).set ((done.length:Int)).toNat ⟨L.Toks++kH g.s.Items g.pos g.neg g.id done.length B F (A done.length)⟩=(done++[⟨L.Toks++kH g.s.Items g.pos g.neg g.id done.length B F (A done.length)⟩])++Ls:=by
    rw [Int.toNat_natCast,List.set_append_right _ _ (Nat.le_refl _),Nat.sub_self,List.set_cons_zero,List.append_assoc]; rfl
   simp only [bO,e1,Option.bind_some,dU,iK (show L.Toks.length≤1099511627776 by omega),bS (show L.Toks.length+(kH g.s.Items g.pos g.neg g.id done.length B F (A done.length)).length≤1099511627776 by omega),e2,wr1 done.length (by omega)]
   have:=Hj hN g hz p1 A hp hA hAl Ls n (done++[⟨L.Toks++kH g.s.Items g.pos g.neg g.id done.length B F (A done.length)⟩]) L.Toks (kH g.s.Items g.pos g.neg g.id done.length B F (A done.length)) (by omega) (by simp; omega)
    (fun t ht=>by have:=hL 0 L rfl t ht; simpa using this) (fun t ht=>by simpa using hmi t ht) (fun j M hj t ht=>by have:=hL (j+1) M (by simpa using hj) t ht; simp only [List.length_append,List.length_cons,List.length_nil]; omega) (by omega)
    (by simp only [List.length_append,List.length_cons,List.length_nil]; exact uX hf2 (Nat.le_refl _) hml)
   simp only [List.length_append,List.length_cons,List.length_nil,Nat.zero_add] at this
   rw [this,List.append_assoc]; rfl
  simp only [bv,c1,if_true]
  by_cases h0:done.length=0
  ·have c2:decide ((done.length:Int)=0)=true:=decide_eq_true (by omega)
   simp only [c2,if_true,AL hN g hz [] [g.id] (by simp; omega) (by simp),Option.bind_some]
   exact key _ (by unfold kH; rw [if_pos h0])
  ·have c2:decide ((done.length:Int)=0)=false:=decide_eq_false (by omega)
   rw [if_neg h0] at hf1
   simp only [c2,Bool.false_eq_true,if_false]
   rw [Kj hN g hz _ B F done.length _ a i ha hi (by omega) hB hF (by rw [hiA]; omega) (by rw [hiA]; exact hAl _) hFl,hiA]
   exact key _ (by unfold kH; rw [if_neg h0])
theorem MV {N:Nat} (hN:1399000000000≤N) (g:cA) (hz:SzG g) (ls:List aa) (A:Nat→List Int) (hp:ls.length≤g.pos.length) (hA:∀ k,k < ls.length→∃ a i,idx g.chain.Pos (k:Int)=some a∧idx g.alphas a=some i∧i.L=A k) (hAl:∀ k,(A k).length≤1099511627776)
  (hL:∀ i L,ls[i]?=some L→∀ t∈L.Toks,t.Ids.length=i+1) (hf:vl (fun k=>(A k).length) 0 (ls.map (·.Toks.length)) 0 0):gR N g ls=some (pK g.s.Items g.pos g.neg g.id A 0 ls [] []):=by
 have hpl:=hz.pl
 have:=Hj hN g hz ls A hp hA hAl ls N [] [] [] (by omega) (by simp) (by simp) (by simp) (fun i L h t ht=>by rw [hL i L h t ht]; simp; omega) (by simp) (by simpa using hf)
 unfold gR
 simpa using this
theorem Fv {N:Nat} (hN:1399000000000≤N) (r:ag) (b:Bool) (hl:r.Pats.length≤1048576):tr N r b=some (r.Pats.filter fun p=>p.Not == b):=by
 unfold tr
 refine (lp' hN r.Pats (by omega) (iH N r b) (fun t u=>some (u++t.filter fun p=>p.Not == b)) (fun u t=>u.length+t.length≤1048576) [] (by simpa using hl) (fun n u i p t g1 g2 g3 g4 g5 g6 gI ih=>?_) (fun n u i g1 g2 gI=>?_)).trans (by simp)
 ·simp only [List.length_cons] at gI
  simp only [iH,g5,if_true,g4,Option.bind_some,List.filter_cons,g6]
  cases hb:(p.Not == b) with
  | true=>
   simp only [if_true,bS (show u.length+[p].length≤1099511627776 by simp; omega),Option.bind_some]
   rw [ih _ (by simp; omega)]; simp
  | false=>
   simp only [Bool.false_eq_true,if_false]
   exact ih u (by omega)
 ·simp only [iH,g2,Bool.false_eq_true,if_false]; simp
theorem ot {α:Type} (d:List α) (x y:α) (t:List α):(d++x :: t).set d.length y=(d++[y])++t:=by
 rw [List.set_append_right _ _ (Nat.le_refl _),Nat.sub_self,List.set_cons_zero,List.append_assoc]; rfl
theorem ft {α:Type} (d:List α) (x:α) (t:List α):idx (d++x :: t) (d.length:Int)=some x:=by rw [cq]; simp
theorem Fu {N:Nat} (hN:1399000000000≤N) (g:cA) (hz:SzG g) (by_:Int) (x1:aw × Bool) (s1:List ab) (s2:Int) (K:List ab→Int→Option (List ab)) (x2:ab) (x3:List aH × Bool) (hb:x3.1.length≤2147483648) :
  ∀ (ns:List av) (n:Nat) (dn:List av) (dh h:List Int),ns.length < n→g.neg=dn++ns→dh.length=dn.length→h.length=ns.length →
   bU N g by_ x1 s1 s2 K x2 x3 n (dh++h) (dn.length:Int)=K (s1.set s2.toNat ⟨x2.Ids,dh++sw x1.1 x3.1 by_ ns h⟩) (IntKind.i64.wrap (s2+1))
 | [],n,dn,dh,h,hn,hg,hd,hh=>by
  obtain ⟨n,rfl⟩:∃ m,n=m+1:=⟨n - 1,by simp at hn; omega⟩
  have c1:decide ((dn.length:Int) < (g.neg.length:Int))=false:=decide_eq_false (by rw [hg]; simp)
  simp only [bU,c1,Bool.false_eq_true,if_false,sw]
 | p :: ns,n,dn,dh,[],hn,hg,hd,hh=>by simp at hh
 | p :: ns,n,dn,dh,x :: h,hn,hg,hd,hh=>by
  obtain ⟨n,rfl⟩:∃ m,n=m+1:=⟨n - 1,by omega⟩
  simp only [List.length_cons] at hn hh
  have hnl:=hz.nl
  have hl:g.neg.length=dn.length+(ns.length+1):=by rw [hg]; simp
  have c1:decide ((dn.length:Int) < (g.neg.length:Int))=true:=decide_eq_true (by omega)
  have e1:idx g.neg (dn.length:Int)=some p:=by rw [hg]; exact ft _ _ _
  have e2:idx (dh++x :: h) (dn.length:Int)=some x:=by rw [← hd]; exact ft _ _ _
  have hp:p∈g.neg:=by rw [hg]; simp
  simp only [bU,c1,if_true,e1,Option.bind_some,E9 hN p x1.1 x3.1 (hz.na p hp) hb,wr1 dn.length (by omega),sw]
  have ih:=Fu hN g hz by_ x1 s1 s2 K x2 x3 hb ns n (dn++[p])
  simp only [List.length_append,List.length_cons,List.length_nil,Nat.zero_add] at ih
  cases hm:(cb p x1.1 x3.1).2 with
  | true=>
   simp only [if_true,e2,Option.bind_some]
   have e3:(dh++x :: h).set ((dn.length:Int)).toNat (IntKind.i64.wrap (x+by_))=(dh++[IntKind.i64.wrap (x+by_)])++h:=by rw [Int.toNat_natCast,← hd]; exact ot _ _ _ _
   rw [e3,ih (dh++[IntKind.i64.wrap (x+by_)]) h (by omega) (by rw [hg]; simp) (by simp [hd]) (by omega)]
   simp
  | false=>
   simp only [Bool.false_eq_true,if_false]
   have:=ih (dh++[x]) h (by omega) (by rw [hg]; simp) (by simp [hd]) (by omega)
   simp only [List.append_assoc,List.cons_append,List.nil_append] at this
   exact this
theorem Gh {N:Nat} (hN:1399000000000≤N) (g:cA) (hz:SzG g) (p1:List ab) (by_:Int) (x1:aw × Bool) (hl:p1.length≤1099511627776):∀ (ts:List ab) (n:Nat) (d:List ab),ts.length < n→d.length+ts.length=p1.length→(∀ t∈ts,t.Ids.length≤g.pos.length∧t.Hits.length=g.neg.length) →
  bA N g p1 by_ x1 n (d++ts) (d.length:Int)=some (d++ki g.s.Items g.pos g.neg x1.1 by_ ts)
 | [],n,d,hn,hd,ht=>by
  obtain ⟨n,rfl⟩:∃ m,n=m+1:=⟨n - 1,by simp at hn; omega⟩
  simp only [List.length_nil,Nat.add_zero] at hd
  have c1:decide ((d.length:Int) < (p1.length:Int))=false:=decide_eq_false (by omega)
  simp only [bA,c1,Bool.false_eq_true,if_false,ki,List.map_nil]
 | t :: ts,n,d,hn,hd,ht=>by
  obtain ⟨n,rfl⟩:∃ m,n=m+1:=⟨n - 1,by omega⟩
  simp only [List.length_cons] at hn hd
  have hpl:=hz.pl
  have hsa:=hz.sa
  have c1:decide ((d.length:Int) < (p1.length:Int))=true:=decide_eq_true (by omega)
  obtain ⟨h1,h2⟩:=ht t (by simp)
  have hbl:=ua g.s.Items g.pos t.Ids
  have e0:gF g.s.Items (g.pos.take t.Ids.length) t.Ids []=okB g.s.Items g.pos t.Ids:=rfl
  have ih:=fun y=>Gh hN g hz p1 by_ x1 hl ts n (d++[y]) (by omega) (by simp; omega) (fun u hu=>ht u (by simp [hu]))
  simp only [List.length_append,List.length_cons,List.length_nil,Nat.zero_add] at ih
  simp only [bA,c1,if_true,ft,Option.bind_some,Gg hN g.pos g.s t.Ids hz.sa hz.pa hz.sl hz.fl (by omega) h1,e0,wr1 d.length (by omega)]
  have e4:ki g.s.Items g.pos g.neg x1.1 by_ (t :: ts)=(if (okB g.s.Items g.pos t.Ids).2=true then ⟨t.Ids,sw x1.1 (okB g.s.Items g.pos t.Ids).1 by_ g.neg t.Hits⟩ else t) :: ki g.s.Items g.pos g.neg x1.1 by_ ts:=rfl
  rw [e4]
  cases hok:(okB g.s.Items g.pos t.Ids).2 with
  | false=>
   simp only [Bool.not_false,if_true,Bool.false_eq_true,if_false]
   have:=ih t
   simp only [List.append_assoc,List.cons_append,List.nil_append] at this
   exact this
  | true=>
   simp only [Bool.not_true,Bool.false_eq_true,if_false,if_true]
   have h3:=Fu hN g hz by_ x1 (d++t :: ts) (d.length:Int) (bA N g p1 by_ x1 n) t (okB g.s.Items g.pos t.Ids) (by omega) g.neg N [] [] t.Hits (by have:=hz.nl; omega) rfl rfl h2
   simp only [List.nil_append,List.length_nil,Int.natCast_zero,Int.toNat_natCast] at h3
   have h3':bU N g by_ x1 (d++t :: ts) (d.length:Int) (bA N g p1 by_ x1 n) t (okB g.s.Items g.pos t.Ids) N t.Hits 0=_:=h3
   rw [h3',ot,wr1 d.length (by omega),ih,List.append_assoc]; rfl
theorem JU {N:Nat} (hN:1399000000000≤N) (g:cA) (hz:SzG g) (ts:List ab) (by_:Int) (hl:ts.length≤1099511627776) (ht:∀ t∈ts,t.Ids.length≤g.pos.length∧t.Hits.length=g.neg.length) :
  gi N g ts by_=some (ki g.s.Items g.pos g.neg (aM g.s.Items g.id).1 by_ ts):=by
 unfold gi
 rw [wG hN g.s g.id hz.sl hz.fl,Option.bind_some]
 have:=Gh hN g hz ts by_ (aM g.s.Items g.id) hl ts N [] (by omega) (by simp) ht
 simpa using this
structure FD (as:List aS) (r:ag) (c:ae) (row:aF):Prop where
 ne:1≤row.Levels.length
 ll:row.Levels.length=(pos r.Pats).length
 ids:∀ i L,row.Levels[i]?=some L→∀ t∈L.Toks,t.Ids.length=i+1
 hit:∀ L,row.Levels[row.Levels.length - 1]?=some L→∀ t∈L.Toks,t.Hits.length=(neg r.Pats).length
 at_:∀ k,k < row.Levels.length→∃ a i,idx c.Pos (k:Int)=some a∧idx as a=some i
 fit:vl (fun k=>(An as c k).length) 0 (row.Levels.map (·.Toks.length)) 0 0
 al:∀ k,(An as c k).length≤1099511627776
theorem EC {A:Nat→Nat}:∀ {ls:List Nat} {k b f:Nat},vl A k ls b f→∀ l∈ls,l≤1099511627776
 | [],_,_,_,_,_,h=>by cases h
 | l :: ls,k,b,f,h,x,hx=>by
  rcases List.mem_cons.1 hx with rfl | hx
  ·have:=h.1; omega
  ·exact EC h.2 x hx
theorem AJ {row:aF} {L:aa} {M:List ab} {i:Nat} (hL:row.Levels[i]?=some L) (hM:M.length=L.Toks.length):(row.Levels.set i ⟨M⟩).map (·.Toks.length)=row.Levels.map (·.Toks.length):=by
 rw [List.map_set]
 have:(row.Levels.map (·.Toks.length))[i]?=some L.Toks.length:=by rw [List.getElem?_map,hL]; rfl
 apply List.ext_getElem?
 intro j
 rw [List.getElem?_set]
 split
 ·rename_i e; subst e
  split
  ·rw [this,← hM]
  ·rename_i hlt; rw [List.length_map] at hlt; have:=(List.getElem?_eq_some_iff.1 hL).1; omega
 ·rfl
theorem CO {as:List aS} {c:ae} {k:Nat} {a:Int} {i:aS} (h1:idx c.Pos (k:Int)=some a) (h2:idx as a=some i):i.L=An as c k:=by
 unfold An
 rw [cq] at h1
 rw [h1]
 simp only [h2]
structure SzR (r:ag):Prop where
 pl:r.Pats.length≤1048576
 sa:fO r.Pats≤1048576
 pa:∀ p∈r.Pats,p.Args.length≤1048576
theorem Ij {r:ag} {c:ae} {as:List aS} {s:ah} {id:Int} (hr:SzR r) (hs:s.Items.length≤1048576) (hx:∀ x∈s.Items,x.F.Fields.length≤1048576):SzG ⟨pos r.Pats,neg r.Pats,c,as,s,id⟩:=by
 have h1:=xU r.Pats
 have h2:=hr.sa
 have h3:(pos r.Pats).length≤r.Pats.length:=List.length_filter_le _ _
 have h4:(neg r.Pats).length≤r.Pats.length:=List.length_filter_le _ _
 have h5:=hr.pl
 exact ⟨by simp only; omega,by simp only; omega,fun p hp=>hr.pa p (List.mem_filter.1 hp).1,by simp only; omega,fun p hp=>hr.pa p (List.mem_filter.1 hp).1,hs,hx⟩
theorem Iy (l:List av):(l.filter fun p=>p.Not == true)=neg l:=by
 unfold neg; congr 1; funext p; cases p.Not <;> rfl
theorem NY {N:Nat} (hN:1399000000000≤N) (r:ag) (c:ae) (as:List aS) (s:ah) (id:Int) (row:aF) (hr:SzR r) (hs:s.Items.length≤1048576) (hx:∀ x∈s.Items,x.F.Fields.length≤1048576) (ok:FD as r c row) {β:Type} (K:List aa→Option β) :
  ((idx row.Levels (IntKind.i64.wrap ((row.Levels.length:Int) - 1))).bind fun x8=>((gi N ⟨pos r.Pats,neg r.Pats,c,as,s,id⟩ x8.Toks 1).bind fun x9=>((gR N ⟨pos r.Pats,neg r.Pats,c,as,s,id⟩ (row.Levels.set (IntKind.i64.wrap ((row.Levels.length:Int) - 1)).toNat (⟨x9⟩:aa))).bind fun x10=>K x10)))
   = K (u7 s.Items as (aM s.Items id).1 id r c row).Levels:=by
 have hg:=Ij (c:=c) (as:=as) (s:=s) (id:=id) hr hs hx
 have hne:=ok.ne
 have hll:=ok.ll
 have hpl:=hg.pl
 simp only at hpl
 have ew:IntKind.i64.wrap ((row.Levels.length:Int) - 1)=((row.Levels.length - 1:Nat):Int):=by
  rw [show ((row.Levels.length:Int) - 1)=((row.Levels.length - 1:Nat):Int) by omega]
  exact wr (by omega) (by omega)
 have hlt:row.Levels.length - 1 < row.Levels.length:=by omega
 have hL:row.Levels[row.Levels.length - 1]?=some row.Levels[row.Levels.length - 1]:=List.getElem?_eq_getElem hlt
 have hlen:(row.Levels[row.Levels.length - 1]).Toks.length≤1099511627776:=EC ok.fit _ (List.mem_map.2 ⟨_,List.getElem_mem hlt,rfl⟩)
 rw [ew,an hlt,Option.bind_some,JU hN _ hg _ 1 hlen (fun t ht=>⟨by have:=ok.ids _ _ hL t ht; simp only; omega,ok.hit _ hL t ht⟩),Option.bind_some,Int.toNat_natCast]
 have hset:=AJ (M:=ki s.Items (pos r.Pats) (neg r.Pats) (aM s.Items id).1 1 (row.Levels[row.Levels.length - 1]).Toks) hL (xA _)
 have hgrow:=MV hN _ hg (row.Levels.set (row.Levels.length - 1) ⟨ki s.Items (pos r.Pats) (neg r.Pats) (aM s.Items id).1 1 (row.Levels[row.Levels.length - 1]).Toks⟩) (An as c) (by simp only [List.length_set]; omega)
  (fun k hk=>by
   rw [List.length_set] at hk
   obtain ⟨a,i,h1,h2⟩:=ok.at_ k hk
   exact ⟨a,i,h1,h2,CO h1 h2⟩) ok.al
  (fun i L hi t ht=>by
   rw [List.getElem?_set] at hi
   split at hi
   ·rename_i e; subst e
    ·simp only [Option.some.injEq] at hi
     subst hi
     have h1:=Dl (xs:=s.Items) (ps:=pos r.Pats) (ns:=neg r.Pats) (f:=(aM s.Items id).1) (b:=1) (row.Levels[row.Levels.length - 1]).Toks
     have h2:t.Ids∈(row.Levels[row.Levels.length - 1]).Toks.map (·.Ids):=by rw [← h1]; exact List.mem_map.2 ⟨t,ht,rfl⟩
     obtain ⟨u,hu,e⟩:=List.mem_map.1 h2
     rw [← e]; exact ok.ids _ _ hL u hu
   ·exact ok.ids i L hi t ht)
  (by rw [hset]; exact ok.fit)
 rw [hgrow,Option.bind_some]
 unfold u7 qE
 rw [hL]
theorem IS {N:Nat} (hN:1399000000000≤N) (d:bo) (n:bc) (m:aA) (s:ah) (id:Int) (as:List aS) (hs:s.Items.length≤1048576) (hx:∀ x∈s.Items,x.F.Fields.length≤1048576) (hlr:m.Rules.length≤1048576) :
  ∀ (ws:List aF) (rs:List ag) (cs:List ae) (k:Nat) (dr:List ag) (dc:List ae) (dw:List aF),ws.length < k→d.Rules=dr++rs→n.Chains=dc++cs→dw.length+ws.length=m.Rules.length→dr.length=dw.length→dc.length=dw.length→rs.length=ws.length→cs.length=ws.length →
   (∀ (i:Nat) (r:ag) (c:ae) (w:aF),rs[i]?=some r→cs[i]?=some c→ws[i]?=some w→SzR r∧FD as r c w) →
   dS N d n m s id as k (dw++ws) (dw.length:Int)=some (as,dw++rE (u7 s.Items as (aM s.Items id).1 id) rs cs ws)
 | [],rs,cs,k,dr,dc,dw,hk,h1,h2,h3,h4,h5,h6,h7,h8=>by
  obtain ⟨k,rfl⟩:∃ j,k=j+1:=⟨k - 1,by simp at hk; omega⟩
  simp only [List.length_nil,Nat.add_zero] at h3
  have c1:decide ((dw.length:Int) < (m.Rules.length:Int))=false:=decide_eq_false (by omega)
  simp only [dS,c1,Bool.false_eq_true,if_false]
  cases rs <;> cases cs <;> simp [rE]
 | w :: ws,[],cs,k,dr,dc,dw,hk,h1,h2,h3,h4,h5,h6,h7,h8=>by simp at h6
 | w :: ws,r :: rs,[],k,dr,dc,dw,hk,h1,h2,h3,h4,h5,h6,h7,h8=>by simp at h7
 | w :: ws,r :: rs,c :: cs,k,dr,dc,dw,hk,h1,h2,h3,h4,h5,h6,h7,h8=>by
  obtain ⟨k,rfl⟩:∃ j,k=j+1:=⟨k - 1,by omega⟩
  simp only [List.length_cons] at hk h3 h6 h7
  have c1:decide ((dw.length:Int) < (m.Rules.length:Int))=true:=decide_eq_true (by omega)
  obtain ⟨q1,q2⟩:=h8 0 r c w rfl rfl rfl
  have e1:idx d.Rules (dw.length:Int)=some r:=by rw [h1,← h4]; exact ft _ _ _
  have e2:idx n.Chains (dw.length:Int)=some c:=by rw [h2,← h5]; exact ft _ _ _
  simp only [dS,c1,if_true,ft,Option.bind_some,pU,e1,e2,Fv hN r false q1.pl,Fv hN r true q1.pl,Mm,Iy]
  rw [NY hN r c as s id w q1 hs hx q2 (fun x10=>dS N d n m s id as k ((dw++w :: ws).set (dw.length:Int).toNat (⟨x10⟩:aF)) (IntKind.i64.wrap ((dw.length:Int)+1)))]
  rw [Int.toNat_natCast,ot,wr1 dw.length (by omega)]
  have:=IS hN d n m s id as hs hx hlr ws rs cs k (dr++[r]) (dc++[c]) (dw++[⟨(u7 s.Items as (aM s.Items id).1 id r c w).Levels⟩]) (by omega) (by rw [h1]; simp) (by rw [h2]; simp) (by simp; omega) (by simp [h4]) (by simp [h5]) (by omega) (by omega)
   (fun i r' c' w' a1 a2 a3=>h8 (i+1) r' c' w' (by simpa using a1) (by simpa using a2) (by simpa using a3))
  simp only [List.length_append,List.length_cons,List.length_nil,Nat.zero_add] at this
  rw [this,List.append_assoc]
  rfl
theorem Jb {N:Nat} (hN:1399000000000≤N) (d:bo) (n:bc) (m:aA) (s:ah) (id:Int) (f:aw × Bool) (ha:∀ a∈n.Alphas,a.At.length≤1048576) (hl:n.Alphas.length≤1048576) :
  ∀ (as:List a9) (k:Nat) (da:List a9) (di is:List aS),as.length < k→n.Alphas=da++as→di.length=da.length→is.length=as.length→(∀ i∈is,i.L.length+1≤1099511627776) →
   dX N d n m s id f k (di++is) (da.length:Int)=dS N d n m s id (di++cW f.1 id as is) N m.Rules 0
 | [],k,da,di,is,hk,h1,h2,h3,h4=>by
  obtain ⟨k,rfl⟩:∃ j,k=j+1:=⟨k - 1,by simp at hk; omega⟩
  have c1:decide ((da.length:Int) < (n.Alphas.length:Int))=false:=decide_eq_false (by rw [h1]; simp)
  simp only [dX,c1,Bool.false_eq_true,if_false,cW]
 | a :: as,k,da,di,[],hk,h1,h2,h3,h4=>by simp at h3
 | a :: as,k,da,di,i :: is,hk,h1,h2,h3,h4=>by
  obtain ⟨k,rfl⟩:∃ j,k=j+1:=⟨k - 1,by omega⟩
  simp only [List.length_cons] at hk h3
  have hal:n.Alphas.length=da.length+(as.length+1):=by rw [h1]; simp
  have c1:decide ((da.length:Int) < (n.Alphas.length:Int))=true:=decide_eq_true (by omega)
  have e1:idx n.Alphas (da.length:Int)=some a:=by rw [h1]; exact ft _ _ _
  have e2:idx (di++i :: is) (da.length:Int)=some i:=by rw [← h2]; exact ft _ _ _
  have ham:a∈n.Alphas:=by rw [h1]; simp
  have hil:=h4 i (by simp)
  have ih:=fun y=>Jb hN d n m s id f ha hl as k (da++[a]) (di++[y]) is (by omega) (by rw [h1]; simp) (by simp [h2]) (by omega) (fun j hj=>h4 j (by simp [hj]))
  simp only [List.length_append,List.length_cons,List.length_nil,Nat.zero_add,List.append_assoc,List.cons_append,List.nil_append] at ih
  simp only [dX,c1,if_true,e1,Option.bind_some,J2 hN a f.1 (ha a ham),wr1 da.length (by omega),cW]
  cases hp:jJ a f.1 with
  | true=>
   simp only [if_true,e2,Option.bind_some,bS (show i.L.length+[id].length≤1099511627776 by simpa using hil)]
   have e3:(di++i :: is).set ((da.length:Int)).toNat (⟨i.L++[id]⟩:aS)=di++⟨i.L++[id]⟩ :: is:=by
    rw [Int.toNat_natCast,← h2,ot,List.append_assoc]; rfl
   rw [e3]
   exact ih _
  | false=>
   simp only [Bool.false_eq_true,if_false]
   exact ih i
structure L4 (d:bo) (n:bc) (m:aA) (s:ah) (id:Int):Prop where
 sl:s.Items.length≤1048576
 fl:∀ x∈s.Items,x.F.Fields.length≤1048576
 at_:∀ a∈n.Alphas,a.At.length≤1048576
 al:n.Alphas.length≤1048576
 rl:m.Rules.length≤1048576
 la:m.Alphas.length=n.Alphas.length
 lc:n.Chains.length=m.Rules.length
 ld:d.Rules.length=m.Rules.length
 il:∀ i∈m.Alphas,i.L.length+1≤1099511627776
 rows:∀ (i:Nat) (r:ag) (c:ae) (w:aF),d.Rules[i]?=some r→n.Chains[i]?=some c→m.Rules[i]?=some w→SzR r∧FD (cW (aM s.Items id).1 id n.Alphas m.Alphas) r c w
theorem Oj {N:Nat} (hN:1399000000000≤N) (d:bo) (n:bc) (m:aA) (s:ah) (id:Int) (h:L4 d n m s id):oV N d n m s id=some ((xM d n m s id).Alphas,(xM d n m s id).Rules):=by
 have hal:=h.al
 have hrl:=h.rl
 unfold oV
 rw [wG hN s id h.sl h.fl,Option.bind_some]
 have h1:=Jb hN d n m s id (aM s.Items id) h.at_ h.al n.Alphas N [] [] m.Alphas (by omega) rfl rfl h.la h.il
 simp only [List.nil_append,List.length_nil,Int.natCast_zero] at h1
 have h1':dX N d n m s id (aM s.Items id) N m.Alphas 0=_:=h1
 rw [h1']
 have h2:=IS hN d n m s id (cW (aM s.Items id).1 id n.Alphas m.Alphas) h.sl h.fl h.rl m.Rules d.Rules n.Chains N [] [] [] (by omega) rfl rfl (by simp) rfl rfl h.ld h.lc h.rows
 simp only [List.nil_append,List.length_nil,Int.natCast_zero] at h2
 exact h2
def InR (x:Int):Prop:=IntKind.i64.wrap x=x
theorem Hk {N:Nat} (by_ s2:Int) (K:List ab→Int→Option (List ab)) (f:aw) (l:List aH) (hby:by_=1∨by_ = -1) (x3:List Int) (hx:x3.length≤1048576) (done:List ab) (hs2:s2=(done.length:Int)) (ids:List Int) (rest:List ab) :
  ∀ (ns:List av) (n:Nat) (dx dh h:List Int),ns.length < n→x3=dx++rd ns f l→dh.length=dx.length→h.length=ns.length→(∀ x∈h,InR x) →
   d8 N by_ s2 K (l,true) x3 n (done++⟨ids,dh++h⟩ :: rest) (dx.length:Int)=K (done++⟨ids,dh++sw f l by_ ns h⟩ :: rest) (IntKind.i64.wrap (s2+1))
 | [],n,dx,dh,h,hn,h1,h2,h3,h4=>by
  obtain ⟨n,rfl⟩:∃ m,n=m+1:=⟨n - 1,by simp at hn; omega⟩
  have c1:decide ((dx.length:Int) < (x3.length:Int))=false:=decide_eq_false (by rw [h1]; simp [rd])
  simp only [d8,c1,Bool.false_eq_true,if_false,Option.bind_some,sw]
 | p :: ns,n,dx,dh,[],hn,h1,h2,h3,h4=>by simp at h3
 | p :: ns,n,dx,dh,x :: h,hn,h1,h2,h3,h4=>by
  obtain ⟨n,rfl⟩:∃ m,n=m+1:=⟨n - 1,by omega⟩
  simp only [List.length_cons] at hn h3
  have hl:x3.length=dx.length+(ns.length+1):=by rw [h1]; simp [rd]
  have c1:decide ((dx.length:Int) < (x3.length:Int))=true:=decide_eq_true (by omega)
  have e0:rd (p :: ns) f l=(if (cb p f l).2=true then 1 else 0) :: rd ns f l:=rfl
  have e1:idx x3 (dx.length:Int)=some (if (cb p f l).2=true then 1 else 0):=by rw [h1,e0]; exact ft _ _ _
  have e2:idx (done++(⟨ids,dh++x :: h⟩:ab) :: rest) s2=some ⟨ids,dh++x :: h⟩:=by rw [hs2]; exact ft _ _ _
  have e3:idx (dh++x :: h) (dx.length:Int)=some x:=by rw [← h2]; exact ft _ _ _
  have hxr:IntKind.i64.wrap x=x:=h4 x (by simp)
  have e4:IntKind.i64.wrap (x+IntKind.i64.wrap (by_*(if (cb p f l).2=true then 1 else 0)))=if (cb p f l).2=true then IntKind.i64.wrap (x+by_) else x:=by
   split
   ·rw [Int.mul_one]
    have:IntKind.i64.wrap by_=by_:=by rcases hby with rfl | rfl <;> decide
    rw [this]
   ·rw [Int.mul_zero,show IntKind.i64.wrap 0=0 by decide,Int.add_zero,hxr]
  have e5:∀ y:Int,(dh++x :: h).set ((dx.length:Int)).toNat y=(dh++[y])++h:=fun y=>by rw [Int.toNat_natCast,← h2]; exact ot _ _ _ _
  have e6:∀ y:ab,(done++(⟨ids,dh++x :: h⟩:ab) :: rest).set s2.toNat y=done++y :: rest:=fun y=>by rw [hs2,Int.toNat_natCast,ot,List.append_assoc]; rfl
  simp only [d8,c1,if_true,Option.bind_some,e1,e2,e3,e4,e5,e6,wr1 dx.length (by omega)]
  have:=Hk (N:=N) by_ s2 K f l hby x3 hx done hs2 ids rest ns n (dx++[if (cb p f l).2=true then 1 else 0]) (dh++[if (cb p f l).2=true then IntKind.i64.wrap (x+by_) else x]) h (by omega) (by rw [h1,e0]; simp) (by simp [h2]) (by omega) (fun z hz=>h4 z (by simp [hz]))
  simp only [List.length_append,List.length_cons,List.length_nil,Nat.zero_add] at this
  rw [this,sw]
  simp only [List.append_assoc,List.cons_append,List.nil_append]
theorem MJ {N:Nat} (hN:1399000000000≤N) (r:ag) (s:ah) (hz:SzS r s) (f:aw) (by_:Int) (hby:by_=1∨by_ = -1) (toks:List ab) (hl:toks.length≤1099511627776)
  (ht:∀ t∈toks,t.Ids.length≤aj r.Pats∧t.Hits.length=(neg r.Pats).length∧∀ x∈t.Hits,InR x):oT N r s toks f by_=some (ki s.Items (pos r.Pats) (neg r.Pats) f by_ toks):=by
 have hpl:=hz.pl
 have hnl:(neg r.Pats).length≤r.Pats.length:=List.length_filter_le _ _
 unfold oT
 have lp:∀ (ts:List ab) (n:Nat) (done:List ab),ts.length < n→done.length+ts.length≤1099511627776→(∀ t∈ts,t∈toks)→cj N r s f by_ n (done++ts) (done.length:Int)=some (done++ki s.Items (pos r.Pats) (neg r.Pats) f by_ ts):=by
  intro ts
  induction ts with
  | nil=>
   intro n done hn hd hm
   obtain ⟨n,rfl⟩:∃ m,n=m+1:=⟨n - 1,by simp at hn; omega⟩
   have c1:decide ((done.length:Int) < ((done++[]).length:Int))=false:=decide_eq_false (by simp)
   simp only [cj,c1,Bool.false_eq_true,if_false,ki,List.map_nil]
  | cons t ts ih=>
   intro n done hn hd hm
   obtain ⟨n,rfl⟩:∃ m,n=m+1:=⟨n - 1,by omega⟩
   simp only [List.length_cons] at hn hd
   have c1:decide ((done.length:Int) < ((done++t :: ts).length:Int))=true:=decide_eq_true (by simp; omega)
   obtain ⟨h1,h2,h3⟩:=ht t (hm t (by simp))
   obtain ⟨l,g1,g2,g3⟩:=DN hN r s hz t.Ids h1
   simp only [cj,c1,if_true,ft,Option.bind_some,g1,L7 hN r f l hz.pl hz.pa g3]
   have e4:ki s.Items (pos r.Pats) (neg r.Pats) f by_ (t :: ts)=(if (okB s.Items (pos r.Pats) t.Ids).2=true then ⟨t.Ids,sw f (okB s.Items (pos r.Pats) t.Ids).1 by_ (neg r.Pats) t.Hits⟩ else t) :: ki s.Items (pos r.Pats) (neg r.Pats) f by_ ts:=rfl
   rw [e4]
   have next:=fun y=>ih n (done++[y]) (by omega) (by simp; omega) (fun u hu=>hm u (by simp [hu]))
   simp only [List.length_append,List.length_cons,List.length_nil,Nat.zero_add,List.append_assoc,List.cons_append,List.nil_append] at next
   cases hok:(okB s.Items (pos r.Pats) t.Ids).2 with
   | false=>
    simp only [Bool.false_eq_true,if_false]
    have:∀ n,d8 N by_ (done.length:Int) (cj N r s f by_ n) (l,false) (rd (neg r.Pats) f l) N (done++t :: ts) 0=cj N r s f by_ n (done++t :: ts) (IntKind.i64.wrap ((done.length:Int)+1)):=fun n=>by
     obtain ⟨M,rfl⟩:∃ m,N=m+1:=⟨N - 1,by omega⟩
     unfold d8
     split <;> simp
    rw [this,wr1 done.length (by omega)]
    exact next t
   | true=>
    obtain rfl:=g2 hok
    simp only [if_true]
    have:=Hk (N:=N) by_ (done.length:Int) (cj N r s f by_ n) f (okB s.Items (pos r.Pats) t.Ids).1 hby (rd (neg r.Pats) f (okB s.Items (pos r.Pats) t.Ids).1) (by simp [rd]; omega) done rfl t.Ids ts (neg r.Pats) N [] [] t.Hits (by omega) rfl rfl h2 h3
    simp only [List.nil_append,List.length_nil,Int.natCast_zero] at this
    have h5:d8 N by_ (done.length:Int) (cj N r s f by_ n) ((okB s.Items (pos r.Pats) t.Ids).1,true) (rd (neg r.Pats) f (okB s.Items (pos r.Pats) t.Ids).1) N (done++t :: ts) 0=_:=this
    rw [h5,wr1 done.length (by omega)]
    exact next _
 have:=lp toks N [] (by omega) (by simpa using hl) (fun t h=>h)
 simpa using this
def pM (xs:List aC) (ps:List av) (row ids:List Int):List ab:=ids.flatMap (kJ xs ps row)
def xV (xs:List aC) (ps:List av) (id:Int) (k:Nat) (B F:List ab) (A:List Int):List ab:=
 (if k=0 then kJ xs ps [] id else B.flatMap fun t=>kJ xs ps t.Ids id)++F.flatMap fun t=>pM xs ps t.Ids A
def xn (xs:List aC) (ps ns:List av) (k:Nat) (t:ab):ab:=if k+1=ps.length then ⟨t.Ids,kh xs ns (okB xs ps t.Ids).1⟩ else t
theorem xF {xs:List aC} {ps ns:List av} {row:List Int} {id:Int} {k:Nat} (h:row.length=k):(kJ xs ps row id).map (xn xs ps ns k)=tD xs ps ns row id:=by
 subst h
 unfold kJ tD
 by_cases hok:(okB xs ps (row++[id])).2=true
 ·rw [if_pos hok,if_pos hok,List.map_cons,List.map_nil]
  unfold xn
  by_cases hk:row.length+1=ps.length
  ·rw [if_pos hk,if_pos hk]
  ·rw [if_neg hk,if_neg hk]
 ·rw [if_neg hok,if_neg hok]; rfl
theorem Io {xs:List aC} {ps ns:List av} {row:List Int} {k:Nat} (h:row.length=k) (ids:List Int):(pM xs ps row ids).map (xn xs ps ns k)=iI xs ps ns row ids:=by
 unfold pM iI
 rw [List.map_flatMap]
 congr 1
 funext v
 exact xF h
theorem ny {α β:Type} {f g:α→List β}:∀ {l:List α},(∀ x∈l,f x=g x)→l.flatMap f=l.flatMap g
 | [],_=>rfl
 | x :: t,h=>by rw [List.flatMap_cons,List.flatMap_cons,h x (by simp),ny fun y hy=>h y (by simp [hy])]
theorem I8 {xs:List aC} {ps ns:List av} {id:Int} {k:Nat} {B F:List ab} {A:List Int} (h0:k=0→F=[]) (hB:∀ t∈B,t.Ids.length=k) (hF:∀ t∈F,t.Ids.length=k):(xV xs ps id k B F A).map (xn xs ps ns k)=kH xs ps ns id k B F A:=by
 unfold xV kH
 rw [List.map_append]
 by_cases hk:k=0
 ·rw [if_pos hk,if_pos hk,h0 hk,xF (by simp [hk])]
  simp [iI]
 ·rw [if_neg hk,if_neg hk,List.map_flatMap,List.map_flatMap]
  congr 1
  ·refine ny fun t ht=>?_
   rw [xF (hB t ht)]; simp [iI]
  ·exact ny fun t ht=>Io (hF t ht) A
theorem vc (xs:List aC) (ps:List av) (row:List Int) (id:Int):(kJ xs ps row id).length≤1:=by unfold kJ; split <;> simp
theorem Dk (xs:List aC) (ps:List av) (row:List Int):∀ (ids:List Int),(pM xs ps row ids).length≤ids.length
 | []=>by simp [pM]
 | v :: ids=>by
  have h1:=Dk xs ps row ids
  have h2:=vc xs ps row v
  unfold pM at h1 ⊢
  rw [List.flatMap_cons,List.length_append,List.length_cons]; omega
theorem IR {xs:List aC} {ps:List av} {id:Int} {k:Nat} {B F:List ab} {A:List Int} (hB:∀ t∈B,t.Ids.length=k) (hF:∀ t∈F,t.Ids.length=k):∀ t∈xV xs ps id k B F A,t.Ids.length=k+1∧(okB xs ps t.Ids).2=true:=by
 have hj:∀ (row:List Int) (v:Int),row.length=k→∀ t∈kJ xs ps row v,t.Ids.length=k+1∧(okB xs ps t.Ids).2=true:=fun row v hr t ht=>by
  unfold kJ at ht
  split at ht
  ·simp only [List.mem_singleton] at ht; subst ht; exact ⟨by simp [hr],by assumption⟩
  ·cases ht
 intro t ht
 unfold xV at ht
 rcases List.mem_append.1 ht with h | h
 ·split at h
  ·rename_i hk; exact hj [] id (by simp [hk]) t h
  ·obtain ⟨u,hu,h⟩:=List.mem_flatMap.1 h
   exact hj _ _ (hB u hu) t h
 ·obtain ⟨u,hu,h⟩:=List.mem_flatMap.1 h
  unfold pM at h
  obtain ⟨v,_,h⟩:=List.mem_flatMap.1 h
  exact hj _ _ (hF u hu) t h
theorem K7 {N:Nat} (hN:1399000000000≤N) (r:ag) (s:ah) (hz:SzS r s) (F:List ab) (x12:aS) (j:Nat) (K:List ab→Int→Option aA) (t:ab) (ht:idx F (j:Int)=some t) (hj:j≤1099511627776) (hr:t.Ids.length+1≤aj r.Pats) (hA:x12.L.length≤1099511627776) (u0:List ab) (hl:u0.length+x12.L.length≤1099511627776) :
  fj N r s F x12 (j:Int) K N u0 0=K (u0++pM s.Items (pos r.Pats) t.Ids x12.L) ((j+1:Nat):Int):=by
 refine lp' hN x12.L hA (fun n (u:List ab) i=>fj N r s F x12 (j:Int) K n u i) (fun w u=>K (u++pM s.Items (pos r.Pats) t.Ids w) ((j+1:Nat):Int)) (fun u w=>u.length+w.length≤1099511627776) u0 hl (fun n u i v w g1 g2 g3 g4 g5 g6 gI gh=>?_) (fun n u i g1 g2 gI=>?_)
 ·simp only [List.length_cons] at gI
  have h1:=vc s.Items (pos r.Pats) t.Ids v
  simp only [fj,g5,if_true,ht,g4,Option.bind_some,GM hN r s hz u t.Ids v hr (by omega),g6]
  rw [gh _ (by rw [List.length_append]; omega)]
  simp [pM]
 ·simp only [fj,g2,Bool.false_eq_true,if_false,wr1 j (by omega)]; simp [pM]
theorem Kq {N:Nat} (hN:1399000000000≤N) (r:ag) (s:ah) (hz:SzS r s) (x1:aF) (s1:List aa) (F:List ab) (k:Int) (K:List aa→List ab→Int→Option aA) (x12:aS) (hF:∀ t∈F,t.Ids.length+1≤aj r.Pats) (hFl:F.length≤1099511627776) (hA:x12.L.length≤1099511627776) (u0:List ab) (hl:u0.length+F.length*x12.L.length≤1099511627776) :
  dK N r s x1 s1 F k K x12 N u0 0=bH N r s x1 s1 k K N (u0++F.flatMap fun t=>pM s.Items (pos r.Pats) t.Ids x12.L) 0:=by
 refine lp' hN F hFl (fun n (u:List ab) i=>dK N r s x1 s1 F k K x12 n u i) (fun w u=>bH N r s x1 s1 k K N (u++w.flatMap fun t=>pM s.Items (pos r.Pats) t.Ids x12.L) 0) (fun u w=>u.length+w.length*x12.L.length≤1099511627776) u0 hl (fun n u i v w g1 g2 g3 g4 g5 g6 gI gh=>?_) (fun n u i g1 g2 gI=>?_)
 ·rw [List.length_cons,Nat.succ_mul] at gI
  have h1:=Dk s.Items (pos r.Pats) v.Ids x12.L
  simp only [dK,g5,if_true]
  rw [K7 hN r s hz F x12 i _ v g4 (by omega) (hF v g2) hA u (by omega),gh _ (by rw [List.length_append]; omega),List.flatMap_cons,List.append_assoc]
 ·simp only [dK,g2,Bool.false_eq_true,if_false]; simp
theorem Ku {N:Nat} (hN:1399000000000≤N) (r:ag) (s:ah) (hz:SzS r s) (x1:aF) (done:List aa) (L:aa) (Ls:List aa) (K:List aa→List ab→Int→Option aA) (hx:x1.Levels.length=(pos r.Pats).length) (hk:done.length+1≤(pos r.Pats).length) (hpp:(pos r.Pats).length=aj r.Pats) (M:List ab)
  (hM:∀ t∈M,t.Ids.length=done.length+1∧(okB s.Items (pos r.Pats) t.Ids).2=true) (hl:L.Toks.length+M.length≤1099511627776) :
  bH N r s x1 (done++L :: Ls) (done.length:Int) K N M 0=K (done++⟨L.Toks++M.map (xn s.Items (pos r.Pats) (neg r.Pats) done.length)⟩ :: Ls) (M.map (xn s.Items (pos r.Pats) (neg r.Pats) done.length)) ((done.length+1:Nat):Int):=by
 have hpl:=hz.pl
 have hpc:=gX r.Pats
 have ew:IntKind.i64.wrap ((x1.Levels.length:Int) - 1)=((x1.Levels.length - 1:Nat):Int):=by
  rw [show ((x1.Levels.length:Int) - 1)=((x1.Levels.length - 1:Nat):Int) by omega]
  exact wr (by omega) (by omega)
 have fin:∀ (n:Nat) (Z:List ab) (i:Int),Z.length=M.length→((if decide (i < (Z.length:Int)) then some (decide ((done.length:Int)=IntKind.i64.wrap ((x1.Levels.length:Int) - 1))) else some false)=some false) →
   bH N r s x1 (done++L :: Ls) (done.length:Int) K (n+1) Z i=K (done++⟨L.Toks++Z⟩ :: Ls) Z ((done.length+1:Nat):Int):=by
  intro n Z i hZ hb
  have e6:(done++L :: Ls).set ((done.length:Int)).toNat (⟨L.Toks++Z⟩:aa)=done++⟨L.Toks++Z⟩ :: Ls:=by rw [Int.toNat_natCast,ot,List.append_assoc]; rfl
  simp only [bH,hb,Option.bind_some,Bool.false_eq_true,if_false,ft,bS (show L.Toks.length+Z.length≤1099511627776 by omega),e6,wr1 done.length (by omega)]
 by_cases hlast:done.length+1=(pos r.Pats).length
 ·have c2:decide ((done.length:Int)=IntKind.i64.wrap ((x1.Levels.length:Int) - 1))=true:=by rw [ew]; exact decide_eq_true (by omega)
  have lp:∀ (Z:List ab) (n:Nat) (D:List ab),Z.length < n→D.length+Z.length=M.length→(∀ t∈Z,t∈M) →
    bH N r s x1 (done++L :: Ls) (done.length:Int) K n (D++Z) (D.length:Int)=K (done++⟨L.Toks++(D++Z.map (xn s.Items (pos r.Pats) (neg r.Pats) done.length))⟩ :: Ls) (D++Z.map (xn s.Items (pos r.Pats) (neg r.Pats) done.length)) ((done.length+1:Nat):Int):=by
   intro Z
   induction Z with
   | nil=>
    intro n D hn hD hm
    obtain ⟨n,rfl⟩:∃ m,n=m+1:=⟨n - 1,by simp at hn; omega⟩
    have c1:decide ((D.length:Int) < ((D++[]).length:Int))=false:=decide_eq_false (by simp)
    rw [fin n (D++[]) (D.length:Int) (by simpa using hD) (by rw [c1]; rfl)]
    simp
   | cons t Z ih=>
    intro n D hn hD hm
    obtain ⟨n,rfl⟩:∃ m,n=m+1:=⟨n - 1,by omega⟩
    simp only [List.length_cons] at hn hD
    have c1:decide ((D.length:Int) < ((D++t :: Z).length:Int))=true:=decide_eq_true (by simp; omega)
    obtain ⟨h1,h2⟩:=hM t (hm t (by simp))
    have e7:xn s.Items (pos r.Pats) (neg r.Pats) done.length t=⟨t.Ids,kh s.Items (neg r.Pats) (okB s.Items (pos r.Pats) t.Ids).1⟩:=by unfold xn; rw [if_pos hlast]
    simp only [bH,c1,if_true,c2,Option.bind_some,ft,Jk hN r s hz t (by omega) h2,Int.toNat_natCast,ot,wr1 D.length (by omega)]
    have:=ih n (D++[⟨t.Ids,kh s.Items (neg r.Pats) (okB s.Items (pos r.Pats) t.Ids).1⟩]) (by omega) (by simp; omega) (fun u hu=>hm u (by simp [hu]))
    simp only [List.length_append,List.length_cons,List.length_nil,Nat.zero_add] at this
    rw [this,List.map_cons,e7]
    simp only [List.append_assoc,List.cons_append,List.nil_append]
  have:=lp M N [] (by omega) (by simp) (fun t h=>h)
  simpa using this
 ·have c2:decide ((done.length:Int)=IntKind.i64.wrap ((x1.Levels.length:Int) - 1))=false:=by rw [ew]; exact decide_eq_false (by omega)
  have e7:M.map (xn s.Items (pos r.Pats) (neg r.Pats) done.length)=M:=by
   rw [show xn s.Items (pos r.Pats) (neg r.Pats) done.length=id from by funext t; unfold xn; rw [if_neg hlast]; rfl,List.map_id]
  obtain ⟨m,rfl⟩:∃ m,N=m+1:=⟨N - 1,by omega⟩
  rw [e7]
  have:=fin m M 0 rfl (by rw [c2]; split <;> rfl)
  exact this
theorem HF {N:Nat} (hN:1399000000000≤N) (r:ag) (s:ah) (hz:SzS r s) (c:ae) (m:aA) (id:Int) (thr:List Bool) (x1:aF) (done:List aa) (L:aa) (Ls:List aa) (K:List aa→List ab→Int→Option aA) (k:Nat) (hk:done.length=k) (B F:List ab) (a:Int) (A:aS) (b:Bool)
  (hp1:idx c.Pos (k:Int)=some a) (hA:idx m.Alphas a=some A) (hb:idx thr a=some b) (hbf:b=false→∀ row:List Int,row.length=k→kJ s.Items (pos r.Pats) row id=[])
  (hd:k≠0→∃ D,done=D++[⟨B++F⟩]) (h0:k=0→B=[]) (hkp:k+1≤aj r.Pats) (hB:∀ t∈B,t.Ids.length=k) (hF:∀ t∈F,t.Ids.length=k) (hAl:A.L.length≤1099511627776) (hFl:F.length≤1099511627776) (u0:List ab) (hl:u0.length+B.length+F.length*A.L.length≤1099511627776) :
  d9 N r c m s id thr x1 (done++L :: Ls) F (k:Int) K (B.length:Int) N u0 0=bH N r s x1 (done++L :: Ls) (k:Int) K N (u0++(B.flatMap fun t=>kJ s.Items (pos r.Pats) t.Ids id)++F.flatMap fun t=>pM s.Items (pos r.Pats) t.Ids A.L) 0:=by
 have hpl:=hz.pl
 have hpc:=gX r.Pats
 have tail:∀ (n:Nat) (u:List ab) (i:Int),((if decide (i < (B.length:Int)) then ((idx c.Pos (k:Int)).bind fun x6=>((idx thr x6).bind fun x7=>some x7)) else some false)=some false)→u.length+F.length*A.L.length≤1099511627776 →
   d9 N r c m s id thr x1 (done++L :: Ls) F (k:Int) K (B.length:Int) (n+1) u i=bH N r s x1 (done++L :: Ls) (k:Int) K N (u++F.flatMap fun t=>pM s.Items (pos r.Pats) t.Ids A.L) 0:=by
  intro n u i hc hu
  unfold d9
  rw [hc]
  simp only [Option.bind_some,Bool.false_eq_true,if_false,hp1,hA]
  exact Kq hN r s hz x1 _ F (k:Int) K A (fun t ht=>by rw [hF t ht]; exact hkp) hFl hAl u hu
 cases b with
 | false=>
  have e1:(B.flatMap fun t=>kJ s.Items (pos r.Pats) t.Ids id)=[]:=by
   rw [ny (g:=fun _=>[]) fun t ht=>hbf rfl _ (hB t ht)]; simp
  obtain ⟨n,rfl⟩:∃ n,N=n+1:=⟨N - 1,by omega⟩
  rw [e1,List.append_nil]
  exact tail n u0 0 (by simp only [hp1,hb,Option.bind_some]; split <;> rfl) (by omega)
 | true=>
  have lp:∀ (Z:List ab) (n:Nat) (D:List ab) (u:List ab),Z.length < n→B=D++Z→u.length+Z.length+F.length*A.L.length≤1099511627776 →
    d9 N r c m s id thr x1 (done++L :: Ls) F (k:Int) K (B.length:Int) n u (D.length:Int)=bH N r s x1 (done++L :: Ls) (k:Int) K N (u++(Z.flatMap fun t=>kJ s.Items (pos r.Pats) t.Ids id)++F.flatMap fun t=>pM s.Items (pos r.Pats) t.Ids A.L) 0:=by
   intro Z
   induction Z with
   | nil=>
    intro n D u hn hD hu
    obtain ⟨n,rfl⟩:∃ m,n=m+1:=⟨n - 1,by simp at hn; omega⟩
    have c1:decide ((D.length:Int) < (B.length:Int))=false:=decide_eq_false (by rw [hD]; simp)
    rw [tail n u _ (by rw [c1]; rfl) (by simpa using hu)]
    simp
   | cons t Z ih=>
    intro n D u hn hD hu
    obtain ⟨n,rfl⟩:∃ m,n=m+1:=⟨n - 1,by omega⟩
    simp only [List.length_cons] at hn hu
    have hBl:B.length=D.length+(Z.length+1):=by rw [hD]; simp
    have c1:decide ((D.length:Int) < (B.length:Int))=true:=decide_eq_true (by omega)
    have hk0:k≠0:=fun e=>by rw [h0 e] at hBl; simp at hBl
    obtain ⟨D',hD'⟩:=hd hk0
    have ew:IntKind.i64.wrap ((k:Int) - 1)=((k - 1:Nat):Int):=by
     rw [show ((k:Int) - 1)=((k - 1:Nat):Int) by omega]
     exact wr (by omega) (by omega)
    have e1:idx (done++L :: Ls) ((k - 1:Nat):Int)=some ⟨B++F⟩:=by
     rw [hD',List.append_assoc,← hk,hD',cq]
     simp
    have e2:idx (B++F) (D.length:Int)=some t:=by rw [hD,List.append_assoc]; exact ft _ _ _
    have h1:=vc s.Items (pos r.Pats) t.Ids id
    have htk:=hB t (by rw [hD]; simp)
    simp only [d9,c1,if_true,hp1,hb,Option.bind_some,ew,e1,e2,GM hN r s hz u t.Ids id (by omega) (by omega),wr1 D.length (by omega)]
    have:=ih n (D++[t]) (u++kJ s.Items (pos r.Pats) t.Ids id) (by omega) (by rw [hD]; simp) (by rw [List.length_append]; omega)
    simp only [List.length_append,List.length_cons,List.length_nil,Nat.zero_add] at this
    rw [this,List.flatMap_cons]
    simp only [List.append_assoc]
  exact lp B N [] u0 (by omega) rfl hl
theorem HN {N:Nat} (hN:1399000000000≤N) (r:ag) (s:ah) (hz:SzS r s) (c:ae) (m:aA) (at_ id:Int) (thr:List Bool) (x1:aF) (hx:x1.Levels.length=(pos r.Pats).length) (hx1:1≤x1.Levels.length) (hpp:(pos r.Pats).length=aj r.Pats) (A:Nat→List Int) (hAl:∀ k,(A k).length≤1099511627776)
  (hA:∀ k,k < x1.Levels.length→∃ a i b,idx c.Pos (k:Int)=some a∧idx m.Alphas a=some i∧i.L=A k∧idx thr a=some b∧(b=false→∀ row:List Int,row.length=k→kJ s.Items (pos r.Pats) row id=[])) :
  ∀ (rest:List aa) (n:Nat) (done:List aa) (B F:List ab),rest.length < n→done.length+rest.length=x1.Levels.length→(done.length≠0→∃ D,done=D++[⟨B++F⟩])→(done.length=0→B=[]∧F=[])→(∀ t∈B,t.Ids.length=done.length)→(∀ t∈F,t.Ids.length=done.length)→(∀ i L,rest[i]?=some L→∀ t∈L.Toks,t.Ids.length=done.length+1+i) →
   F.length≤1099511627776→vl (fun k=>(A k).length) done.length (rest.map (·.Toks.length)) B.length F.length →
   bi N r c m at_ s id thr x1 n (done++rest) F (done.length:Int)=some ⟨m.Alphas,m.Rules.set at_.toNat ⟨done++pK s.Items (pos r.Pats) (neg r.Pats) id A done.length rest B F⟩⟩
 | [],n,done,B,F,hn,hd,hD,h0,hB,hF,hL,hFl,hf=>by
  obtain ⟨n,rfl⟩:∃ m,n=m+1:=⟨n - 1,by simp at hn; omega⟩
  simp only [List.length_nil,Nat.add_zero] at hd
  have hpl:=hz.pl
  have hpc:=gX r.Pats
  have ew:IntKind.i64.wrap ((x1.Levels.length:Int) - 1)=((x1.Levels.length - 1:Nat):Int):=by
   rw [show ((x1.Levels.length:Int) - 1)=((x1.Levels.length - 1:Nat):Int) by omega]
   exact wr (by omega) (by omega)
  have c1:decide ((done.length:Int)≤IntKind.i64.wrap ((x1.Levels.length:Int) - 1))=false:=by rw [ew]; exact decide_eq_false (by omega)
  simp only [bi,c1,Bool.false_eq_true,if_false,pK]
 | L :: Ls,n,done,B,F,hn,hd,hD,h0,hB,hF,hL,hFl,hf=>by
  obtain ⟨n,rfl⟩:∃ m,n=m+1:=⟨n - 1,by omega⟩
  simp only [List.length_cons] at hn hd
  obtain ⟨hf1,hf2⟩:=hf
  simp only at hf1 hf2
  have hpl:=hz.pl
  have hpc:=gX r.Pats
  have ew:IntKind.i64.wrap ((x1.Levels.length:Int) - 1)=((x1.Levels.length - 1:Nat):Int):=by
   rw [show ((x1.Levels.length:Int) - 1)=((x1.Levels.length - 1:Nat):Int) by omega]
   exact wr (by omega) (by omega)
  have c1:decide ((done.length:Int)≤IntKind.i64.wrap ((x1.Levels.length:Int) - 1))=true:=by rw [ew]; exact decide_eq_true (by omega)
  obtain ⟨a,i,b,ha,hi,hiA,hb,hbf⟩:=hA done.length (by omega)
  have hml:=xr s.Items (pos r.Pats) (neg r.Pats) id done.length B F (A done.length)
  have hmi:=xd (xs:=s.Items) (ps:=pos r.Pats) (ns:=neg r.Pats) (id:=id) (A:=A done.length) hB hF
  have hfin:=I8 (xs:=s.Items) (ps:=pos r.Pats) (ns:=neg r.Pats) (id:=id) (A:=A done.length) (fun e=>(h0 e).2) hB hF
  have hsok:=IR (xs:=s.Items) (ps:=pos r.Pats) (id:=id) (A:=A done.length) hB hF
  have hsl:(xV s.Items (pos r.Pats) id done.length B F (A done.length)).length=(kH s.Items (pos r.Pats) (neg r.Pats) id done.length B F (A done.length)).length:=by rw [← hfin,List.length_map]
  have key:∀ M,M=xV s.Items (pos r.Pats) id done.length B F (A done.length)→bH N r s x1 (done++L :: Ls) (done.length:Int) (bi N r c m at_ s id thr x1 n) N M 0=some ⟨m.Alphas,m.Rules.set at_.toNat ⟨done++pK s.Items (pos r.Pats) (neg r.Pats) id A done.length (L :: Ls) B F⟩⟩:=by
   intro M hM
   subst hM
   rw [Ku hN r s hz x1 done L Ls _ hx (by omega) hpp _ hsok (by omega),hfin]
   have:=HN hN r s hz c m at_ id thr x1 hx hx1 hpp A hAl hA Ls n (done++[⟨L.Toks++kH s.Items (pos r.Pats) (neg r.Pats) id done.length B F (A done.length)⟩]) L.Toks (kH s.Items (pos r.Pats) (neg r.Pats) id done.length B F (A done.length)) (by omega) (by simp; omega)
    (fun _=>⟨done,rfl⟩) (fun e=>by simp at e) (fun t ht=>by have:=hL 0 L rfl t ht; simpa using this) (fun t ht=>by simpa using hmi t ht) (fun j M hj t ht=>by have:=hL (j+1) M (by simpa using hj) t ht; simp only [List.length_append,List.length_cons,List.length_nil]; omega) (by omega)
    (by simp only [List.length_append,List.length_cons,List.length_nil]; exact uX hf2 (Nat.le_refl _) hml)
   simp only [List.length_append,List.length_cons,List.length_nil,Nat.zero_add,List.append_assoc,List.cons_append,List.nil_append] at this
   exact this
  simp only [bi,c1,if_true]
  by_cases hk0:done.length=0
  ·obtain ⟨rfl,rfl⟩:=h0 hk0
   have c2:decide ((done.length:Int)=0)=true:=decide_eq_true (by omega)
   have c3:decide ((0:Int) < (done.length:Int))=false:=decide_eq_false (by omega)
   have ha0:idx c.Pos 0=some a:=by rw [← ha,hk0]; rfl
   have h1:=vc s.Items (pos r.Pats) [] id
   have fin:∀ u0,u0=kJ s.Items (pos r.Pats) [] id→gu N r c m s id thr x1 (done++L :: Ls) [] (done.length:Int) (bi N r c m at_ s id thr x1 n) u0=some ⟨m.Alphas,m.Rules.set at_.toNat ⟨done++pK s.Items (pos r.Pats) (neg r.Pats) id A done.length (L :: Ls) [] []⟩⟩:=by
    intro u0 hu
    unfold gu ik
    rw [c3]
    simp only [Bool.false_eq_true,if_false]
    have hul:u0.length≤1:=by rw [hu]; exact h1
    have:=HF hN r s hz c m id thr x1 done L Ls (bi N r c m at_ s id thr x1 n) done.length rfl [] [] a i b ha hi hb hbf (fun e=>absurd hk0 e) (fun _=>rfl) (by omega) (by simp) (by simp) (by rw [hiA]; exact hAl _) (by simp) u0 (by simp; omega)
    simp only [List.length_nil,Int.natCast_zero] at this
    have h5:d9 N r c m s id thr x1 (done++L :: Ls) [] (done.length:Int) (bi N r c m at_ s id thr x1 n) 0 N u0 0=_:=this
    rw [h5]
    exact key _ (by unfold xV; rw [if_pos hk0,hu]; simp)
   simp only [c2,if_true,ha0,hb,Option.bind_some]
   cases b with
   | true=>
    simp only [if_true,GM hN r s hz [] [] id (by simp; omega) (by simp),Option.bind_some]
    exact fin _ (by simp)
   | false=>
    simp only [Bool.false_eq_true,if_false]
    exact fin _ (hbf rfl [] (by simp [hk0])).symm
  ·have c2:decide ((done.length:Int)=0)=false:=decide_eq_false (by omega)
   have c3:decide ((0:Int) < (done.length:Int))=true:=decide_eq_true (by omega)
   obtain ⟨D',hD'⟩:=hD hk0
   have ew2:IntKind.i64.wrap ((done.length:Int) - 1)=((done.length - 1:Nat):Int):=by
    rw [show ((done.length:Int) - 1)=((done.length - 1:Nat):Int) by omega]
    exact wr (by omega) (by omega)
   have e1:idx (done++L :: Ls) ((done.length - 1:Nat):Int)=some ⟨B++F⟩:=by
    rw [hD',List.append_assoc,cq]
    simp
   rw [if_neg hk0] at hf1
   have hBl:B.length≤1099511627776:=by omega
   have e2:IntKind.i64.wrap (((B++F).length:Int) - (F.length:Int))=(B.length:Int):=by
    rw [List.length_append,show (((B.length+F.length:Nat):Int) - (F.length:Int))=(B.length:Int) by omega]
    exact wr (by omega) (by omega)
   simp only [c2,Bool.false_eq_true,if_false,Option.bind_some,gu,c3,if_true,ew2,e1,e2,ik]
   rw [HF hN r s hz c m id thr x1 done L Ls _ done.length rfl B F a i b ha hi hb hbf (fun _=>⟨D',hD'⟩) (fun e=>absurd e hk0) (by omega) hB hF (by rw [hiA]; exact hAl _) hFl [] (by rw [hiA]; simp; omega)]
   exact key _ (by unfold xV; rw [if_neg hk0,hiA]; simp)
theorem CV {b0:List aH}:∀ (as:List be) (vs:List aL) (s:List aH) (pre:List aL),(dC b0 as vs s).2=true→as.length=vs.length→jN (pre++vs) (ats pre.length as) (jQ as)=true
 | [],vs,s,pre,_,_=>rfl
 | a :: as,[],s,pre,_,hl=>by simp at hl
 | a :: as,v :: vs,s,pre,h,hl=>by
  have hl':as.length=vs.length:=by simpa using hl
  have next:∀ s',(dC b0 as vs s').2=true→jN (pre++v :: vs) (ats (pre.length+1) as) (jQ as)=true:=fun s' h'=>by
   have:=CV as vs s' (pre++[v]) h' hl'
   simpa using this
  unfold dC at h
  unfold ats jQ
  by_cases k2:a.K=2
  ·rw [if_pos k2] at h
   rw [if_pos k2,if_pos k2]
   by_cases he:bp a.V v=true
   ·rw [if_pos he] at h
    rw [lS,decide_eq_true_eq] at he
    unfold jN
    have e1:idx (pre++v :: vs) (pre.length:Int)=some a.V:=by
     rw [an (show pre.length < (pre++v :: vs).length by simp),he]; simp
    rw [next s h,e1,decide_eq_true (show (0:Int)≤(pre.length:Int) by omega),decide_eq_true (show (pre.length:Int) < ((pre++v :: vs).length:Int) by simp; omega)]
    simp
   ·rw [if_neg he] at h; cases h
  ·rw [if_neg k2] at h
   rw [if_neg k2,if_neg k2]
   split at h
   ·split at h
    ·split at h
     ·exact next s h
     ·cases h
    ·exact next _ h
   ·exact next s h
theorem EE {p:av} {f:aw} {b:List aH} (h:(cb p f b).2=true):jJ (aT p) f=true:=by
 unfold cb at h
 split at h
 ·rename_i hc
  have:=CV p.Args f.Fields b [] h hc.2
  have hk:seq f.Kind p.Kind=true:=by
   have:=hc.1
   rw [dA,decide_eq_true_eq] at this ⊢
   exact this.symm
  show ((seq f.Kind p.Kind && decide ((f.Fields.length:Int)=(p.Args.length:Int))) && jN f.Fields (ats 0 p.Args) (jQ p.Args))=true
  rw [hk,decide_eq_true (show (f.Fields.length:Int)=(p.Args.length:Int) by omega)]
  simpa using this
 ·cases h
theorem J1 {N:Nat} (hN:1399000000000≤N) (a:a9) (f:aw) (h:a.At.length≤1048576) (hf:f.Fields.length≤1048576):qN N a f=some (jJ a f):=by
 have hwr:IntKind.i64.wrap ((f.Fields.length:Int) - 1)=(f.Fields.length:Int) - 1:=wr (by omega) (by omega)
 have lp:∀ (n i:Nat),i≤a.At.length→a.At.length - i < n→hY N a f n i=some (jN f.Fields (a.At.drop i) (a.Consts.drop i)):=by
  intro n
  induction n with
  | zero=>intro i _ h; omega
  | succ n ih=>
   intro i hi hn
   simp only [hY,in0,Option.bind_some,hwr]
   by_cases hlt:i < a.At.length
   ·have c1:decide ((i:Int) < (a.At.length:Int))=true:=decide_eq_true (by omega)
    rw [List.drop_eq_getElem_cons hlt]
    simp only [c1,if_true,an hlt,Option.bind_some,wr1 i (by omega),ih (i+1) (by omega) (by omega)]
    by_cases hc:i < a.Consts.length
    ·have c2:decide ((a.Consts.length:Int)≤(i:Int))=false:=decide_eq_false (by omega)
     rw [List.drop_eq_getElem_cons hc,jN]
     by_cases h0:a.At[i] < 0
     ·simp [show ¬ a.Consts.length≤i by omega,show ¬ 0≤a.At[i] by omega]
     ·by_cases h1:(f.Fields.length:Int)≤a.At[i]
      ·simp [show ¬ a.Consts.length≤i by omega,show 0≤a.At[i] by omega,show ¬ a.At[i]≤(f.Fields.length:Int) - 1 by omega,show ¬ a.At[i] < (f.Fields.length:Int) by omega]
      ·obtain ⟨j,hj⟩:∃ j:Nat,a.At[i]=(j:Int):=⟨a.At[i].toNat,by omega⟩
       have hjl:j < f.Fields.length:=by omega
       rw [hj]
       rw [hj] at h0 h1
       have hj1:(j:Int)≤(f.Fields.length:Int) - 1:=by omega
       have hj0:(0:Int)≤(j:Int):=by omega
       simp only [hj0,hj1,decide_true,Bool.and_self,Bool.not_true,c2,decide_false,Bool.false_eq_true,if_false,Option.bind_some,an hjl,an hc,lS,Option.some.injEq]
       by_cases he:f.Fields[j]=a.Consts[i] <;> simp [he,hjl]
    ·have c2:decide ((a.Consts.length:Int)≤(i:Int))=true:=decide_eq_true (by omega)
     rw [List.drop_of_length_le (show a.Consts.length≤i by omega),jN]
     simp [show a.Consts.length≤i by omega]
   ·have c1:decide ((i:Int) < (a.At.length:Int))=false:=decide_eq_false (by omega)
    rw [List.drop_of_length_le (show a.At.length≤i by omega)]
    simp only [c1,Bool.false_eq_true,if_false,jN]
 have l0:=lp N 0 (by omega) (by omega)
 rw [List.drop_zero,List.drop_zero,show ((0:Nat):Int)=0 from rfl] at l0
 unfold qN jJ
 rw [l0]
 have hk:seq a.Kind f.Kind=seq f.Kind a.Kind:=by rw [dA,dA]; simp [eq_comm]
 rw [hk]
 have hd:decide (a.N=(f.Fields.length:Int))=decide ((f.Fields.length:Int)=a.N):=by rw [decide_eq_decide]; exact eq_comm
 rw [hd]
 cases seq f.Kind a.Kind <;> cases decide ((f.Fields.length:Int)=a.N) <;> simp
theorem xZ {xs:List aC} {id:Int}:∀ (ps:List av) (row:List Int) (l:List aH),(gF xs (ps.take (row.length+1)) (row++[id]) l).2=true→∃ p,ps[row.length]?=some p∧jJ (aT p) (aM xs id).1=true
 | [],row,l,h=>by
  cases row <;> simp [gF] at h
 | p :: ps,[],l,h=>by
  simp only [List.length_nil,Nat.zero_add,List.take_succ_cons,List.nil_append,gF] at h
  split at h
  ·rename_i hc
   exact ⟨p,rfl,EE hc.2⟩
  ·cases h
 | p :: ps,v :: row,l,h=>by
  simp only [List.length_cons,List.take_succ_cons,List.cons_append,gF] at h
  split at h
  ·have:=xZ ps row _ h
   simpa using this
  ·cases h
theorem Iu {xs:List aC} {ps:List av} {row:List Int} {id:Int} {p:av} (hp:ps[row.length]?=some p) (h:jJ (aT p) (aM xs id).1=false):kJ xs ps row id=[]:=by
 unfold kJ
 rw [if_neg]
 intro hk
 unfold okB at hk
 rw [List.length_append,List.length_cons,List.length_nil,Nat.zero_add] at hk
 obtain ⟨q,hq,h2⟩:=xZ ps row [] hk
 rw [hp] at hq
 cases hq
 rw [h] at h2
 cases h2
theorem LV {N:Nat} (hN:1399000000000≤N) (r:ag) (c:ae) (m:aA) (at_:Int) (s:ah) (id:Int) (thr:List Bool) (row:aF) (hz:SzS r s) (hpp:(pos r.Pats).length=aj r.Pats) (hrow:idx m.Rules at_=some row) (ok:FD m.Alphas r c row)
  (hir:∀ L,row.Levels[row.Levels.length - 1]?=some L→∀ t∈L.Toks,∀ x∈t.Hits,InR x)
  (hthr:∀ k,k < row.Levels.length→∃ a i b,idx c.Pos (k:Int)=some a∧idx m.Alphas a=some i∧idx thr a=some b∧(b=false→∀ row:List Int,row.length=k→kJ s.Items (pos r.Pats) row id=[])) :
  oN N r c m at_ s id (aM s.Items id).1 thr=some ⟨m.Alphas,m.Rules.set at_.toNat ⟨(u7 s.Items m.Alphas (aM s.Items id).1 id r c row).Levels⟩⟩:=by
 have hne:=ok.ne
 have hll:=ok.ll
 have hpl:=hz.pl
 have hpc:=gX r.Pats
 have ew:IntKind.i64.wrap ((row.Levels.length:Int) - 1)=((row.Levels.length - 1:Nat):Int):=by
  rw [show ((row.Levels.length:Int) - 1)=((row.Levels.length - 1:Nat):Int) by omega]
  exact wr (by omega) (by omega)
 have hlt:row.Levels.length - 1 < row.Levels.length:=by omega
 have hL:row.Levels[row.Levels.length - 1]?=some row.Levels[row.Levels.length - 1]:=List.getElem?_eq_getElem hlt
 have hlen:(row.Levels[row.Levels.length - 1]).Toks.length≤1099511627776:=EC ok.fit _ (List.mem_map.2 ⟨_,List.getElem_mem hlt,rfl⟩)
 have hset:=AJ (M:=ki s.Items (pos r.Pats) (neg r.Pats) (aM s.Items id).1 1 (row.Levels[row.Levels.length - 1]).Toks) hL (xA _)
 unfold oN
 rw [hrow,Option.bind_some,ew,an hlt,Option.bind_some,MJ hN r s hz _ 1 (Or.inl rfl) _ hlen (fun t ht=>⟨by have:=ok.ids _ _ hL t ht; omega,ok.hit _ hL t ht,hir _ hL t ht⟩),Option.bind_some,Int.toNat_natCast]
 have h1:=HN hN r s hz c m at_ id thr row hll hne hpp (An m.Alphas c) ok.al
  (fun k hk=>by
   obtain ⟨a,i,b,h1,h2,h3,h4⟩:=hthr k hk
   exact ⟨a,i,b,h1,h2,CO h1 h2,h3,h4⟩)
  (row.Levels.set (row.Levels.length - 1) ⟨ki s.Items (pos r.Pats) (neg r.Pats) (aM s.Items id).1 1 (row.Levels[row.Levels.length - 1]).Toks⟩) N [] [] [] (by rw [List.length_set]; omega) (by simp) (fun e=>absurd rfl e) (fun _=>⟨rfl,rfl⟩) (by simp) (by simp)
  (fun i L hi t ht=>by
   rw [List.length_nil,Nat.zero_add,Nat.add_comm]
   rw [List.getElem?_set] at hi
   split at hi
   ·rename_i e; subst e
    ·simp only [Option.some.injEq] at hi
     subst hi
     have h1:=Dl (xs:=s.Items) (ps:=pos r.Pats) (ns:=neg r.Pats) (f:=(aM s.Items id).1) (b:=1) (row.Levels[row.Levels.length - 1]).Toks
     have h2:t.Ids∈(row.Levels[row.Levels.length - 1]).Toks.map (·.Ids):=by rw [← h1]; exact List.mem_map.2 ⟨t,ht,rfl⟩
     obtain ⟨u,hu,e⟩:=List.mem_map.1 h2
     rw [← e]; exact ok.ids _ _ hL u hu
   ·exact ok.ids i L hi t ht)
  (by simp) (by rw [hset]; exact ok.fit)
 simp only [List.nil_append,List.length_nil,Int.natCast_zero] at h1
 have h2:bi N r c m at_ s id thr row N (row.Levels.set (row.Levels.length - 1) ⟨ki s.Items (pos r.Pats) (neg r.Pats) (aM s.Items id).1 1 (row.Levels[row.Levels.length - 1]).Toks⟩) [] 0=_:=h1
 rw [h2]
 unfold u7 qE
 rw [hL]
theorem HI {N:Nat} (hN:1399000000000≤N) (d:bo) (n:bc) (s:ah) (id:Int) (b:Bool) (as:List aS) (thr:List Bool) (hlr:d.Rules.length≤1048576) :
  ∀ (ws:List aF) (rs:List ag) (cs:List ae) (k:Nat) (dr:List ag) (dc:List ae) (dw:List aF),ws.length < k→d.Rules=dr++rs→n.Chains=dc++cs→dr.length=dw.length→dc.length=dw.length→rs.length=ws.length→cs.length=ws.length →
   (∀ (i:Nat) (r:ag) (c:ae) (w:aF),rs[i]?=some r→cs[i]?=some c→ws[i]?=some w→SzS r s∧(pos r.Pats).length=aj r.Pats∧FD as r c w∧(∀ L,w.Levels[w.Levels.length - 1]?=some L→∀ t∈L.Toks,∀ x∈t.Hits,InR x) ∧
    ∀ k,k < w.Levels.length→∃ a i b,idx c.Pos (k:Int)=some a∧idx as a=some i∧idx thr a=some b∧(b=false→∀ row:List Int,row.length=k→kJ s.Items (pos r.Pats) row id=[])) →
   fZ N d n s id ((aM s.Items id).1,b) as thr k (dw++ws) (dw.length:Int)=some ⟨as,dw++rE (u7 s.Items as (aM s.Items id).1 id) rs cs ws⟩
 | [],rs,cs,k,dr,dc,dw,hk,h1,h2,h4,h5,h6,h7,h8=>by
  obtain ⟨k,rfl⟩:∃ j,k=j+1:=⟨k - 1,by simp at hk; omega⟩
  have hr0:rs=[]:=List.length_eq_zero_iff.1 h6
  subst hr0
  have c1:decide ((dw.length:Int) < (d.Rules.length:Int))=false:=decide_eq_false (by rw [h1,← h4]; simp)
  simp only [fZ,c1,Bool.false_eq_true,if_false,rE]
 | w :: ws,[],cs,k,dr,dc,dw,hk,h1,h2,h4,h5,h6,h7,h8=>by simp at h6
 | w :: ws,r :: rs,[],k,dr,dc,dw,hk,h1,h2,h4,h5,h6,h7,h8=>by simp at h7
 | w :: ws,r :: rs,c :: cs,k,dr,dc,dw,hk,h1,h2,h4,h5,h6,h7,h8=>by
  obtain ⟨k,rfl⟩:∃ j,k=j+1:=⟨k - 1,by omega⟩
  simp only [List.length_cons] at hk h6 h7
  have hdl:d.Rules.length=dw.length+(rs.length+1):=by rw [h1,← h4]; simp
  have c1:decide ((dw.length:Int) < (d.Rules.length:Int))=true:=decide_eq_true (by omega)
  obtain ⟨q1,q2,q3,q4,q5⟩:=h8 0 r c w rfl rfl rfl
  have e1:idx d.Rules (dw.length:Int)=some r:=by rw [h1,← h4]; exact ft _ _ _
  have e2:idx n.Chains (dw.length:Int)=some c:=by rw [h2,← h5]; exact ft _ _ _
  simp only [fZ,c1,if_true,Option.bind_some,e1,e2]
  rw [LV hN r c ⟨as,dw++w :: ws⟩ (dw.length:Int) s id thr w q1 q2 (ft _ _ _) q3 q4 q5]
  simp only [Option.bind_some,Int.toNat_natCast,ot,wr1 dw.length (by omega)]
  have:=HI hN d n s id b as thr hlr ws rs cs k (dr++[r]) (dc++[c]) (dw++[⟨(u7 s.Items as (aM s.Items id).1 id r c w).Levels⟩]) (by omega) (by rw [h1]; simp) (by rw [h2]; simp) (by simp [h4]) (by simp [h5]) (by omega) (by omega)
   (fun i r' c' w' a1 a2 a3=>h8 (i+1) r' c' w' (by simpa using a1) (by simpa using a2) (by simpa using a3))
  simp only [List.length_append,List.length_cons,List.length_nil,Nat.zero_add] at this
  rw [this,List.append_assoc]
  rfl
theorem Hm {N:Nat} (hN:1399000000000≤N) (d:bo) (n:bc) (m:aA) (s:ah) (id:Int) (f:aw × Bool) (ha:∀ a∈n.Alphas,a.At.length≤1048576) (hl:n.Alphas.length≤1048576) (hf:f.1.Fields.length≤1048576) :
  ∀ (as:List a9) (k:Nat) (da:List a9) (di is:List aS),as.length < k→n.Alphas=da++as→di.length=da.length→is.length=as.length→(∀ i∈is,i.L.length+1≤1099511627776) →
   eH N d n m s id f k (di++is) (da.map fun a=>jJ a f.1) (da.length:Int)=fZ N d n s id f (di++cW f.1 id as is) (n.Alphas.map fun a=>jJ a f.1) N m.Rules 0
 | [],k,da,di,is,hk,h1,h2,h3,h4=>by
  obtain ⟨k,rfl⟩:∃ j,k=j+1:=⟨k - 1,by simp at hk; omega⟩
  have c1:decide ((da.length:Int) < (n.Alphas.length:Int))=false:=decide_eq_false (by rw [h1]; simp)
  have e:n.Alphas=da:=by rw [h1]; simp
  simp only [eH,c1,Bool.false_eq_true,if_false,cW]
  rw [e]
 | a :: as,k,da,di,[],hk,h1,h2,h3,h4=>by simp at h3
 | a :: as,k,da,di,i :: is,hk,h1,h2,h3,h4=>by
  obtain ⟨k,rfl⟩:∃ j,k=j+1:=⟨k - 1,by omega⟩
  simp only [List.length_cons] at hk h3
  have hal:n.Alphas.length=da.length+(as.length+1):=by rw [h1]; simp
  have c1:decide ((da.length:Int) < (n.Alphas.length:Int))=true:=decide_eq_true (by omega)
  have e1:idx n.Alphas (da.length:Int)=some a:=by rw [h1]; exact ft _ _ _
  have e2:idx (di++i :: is) (da.length:Int)=some i:=by rw [← h2]; exact ft _ _ _
  have ham:a∈n.Alphas:=by rw [h1]; simp
  have hil:=h4 i (by simp)
  have ih:=fun y=>Hm hN d n m s id f ha hl hf as k (da++[a]) (di++[y]) is (by omega) (by rw [h1]; simp) (by simp [h2]) (by omega) (fun j hj=>h4 j (by simp [hj]))
  simp only [List.length_append,List.length_cons,List.length_nil,Nat.zero_add,List.append_assoc,List.cons_append,List.nil_append,List.map_append,List.map_cons,List.map_nil] at ih
  simp only [eH,c1,if_true,e1,Option.bind_some,J1 hN a f.1 (ha a ham) hf,wr1 da.length (by omega),cW,bS (show (da.map fun a=>jJ a f.1).length+[jJ a f.1].length≤1099511627776 by simp; omega)]
  cases hp:jJ a f.1 with
  | true=>
   rw [hp] at ih
   simp only [if_true,e2,Option.bind_some,bS (show i.L.length+[id].length≤1099511627776 by simpa using hil)]
   have e3:(di++i :: is).set ((da.length:Int)).toNat (⟨i.L++[id]⟩:aS)=di++⟨i.L++[id]⟩ :: is:=by
    rw [Int.toNat_natCast,← h2,ot,List.append_assoc]; rfl
   rw [e3]
   exact ih _
  | false=>
   rw [hp] at ih
   simp only [Bool.false_eq_true,if_false]
   exact ih i
theorem sE {f:aw} {id:Int}:∀ (as:List a9) (is:List aS),(cW f id as is).length=is.length
 | [],is=>by simp [cW]
 | a :: as,[]=>by simp [cW]
 | a :: as,i :: is=>by simp [cW,sE as is]
structure GK (d:bo) (n:bc) (m:aA) (s:ah) (id:Int):Prop where
 ok:L4 d n m s id
 ats:Ats n.Alphas n.Chains d.Rules
 rows:∀ (i:Nat) (r:ag) (w:aF),d.Rules[i]?=some r→m.Rules[i]?=some w→SzS r s∧(pos r.Pats).length=aj r.Pats∧∀ L,w.Levels[w.Levels.length - 1]?=some L→∀ t∈L.Toks,∀ x∈t.Hits,InR x
theorem Nz {N:Nat} (hN:1399000000000≤N) (d:bo) (n:bc) (m:aA) (s:ah) (id:Int) (h:GK d n m s id):rk N d n m s id=some (xM d n m s id):=by
 have hal:=h.ok.al
 have hrl:=h.ok.rl
 have hld:=h.ok.ld
 have hla:=h.ok.la
 unfold rk
 rw [zC hN s id h.ok.sl h.ok.fl,Option.bind_some]
 have h1:=Hm hN d n m s id (aM s.Items id) h.ok.at_ h.ok.al (Gw h.ok.fl id) n.Alphas N [] [] m.Alphas (by omega) rfl rfl h.ok.la h.ok.il
 simp only [List.nil_append,List.length_nil,Int.natCast_zero,List.map_nil] at h1
 have h1':eH N d n m s id (aM s.Items id) N m.Alphas [] 0=_:=h1
 rw [h1']
 have h2:=HI hN d n s id (aM s.Items id).2 (cW (aM s.Items id).1 id n.Alphas m.Alphas) (n.Alphas.map fun a=>jJ a (aM s.Items id).1) (by omega) m.Rules d.Rules n.Chains N [] [] [] (by omega) rfl rfl rfl rfl h.ok.ld h.ok.lc
  (fun i r c w g1 g2 g3=>by
   obtain ⟨q1,q2⟩:=h.ok.rows i r c w g1 g2 g3
   obtain ⟨q3,q4,q5⟩:=h.rows i r w g1 g3
   refine ⟨q3,q4,q2,q5,fun k hk=>?_⟩
   obtain ⟨hi,hr⟩:=List.getElem?_eq_some_iff.1 g1
   obtain ⟨hi',hc⟩:=List.getElem?_eq_some_iff.1 g2
   have hat:=(h.ats.get i hi' hi).1
   rw [hc,hr] at hat
   have hkp:k < (pos r.Pats).length:=by rw [← q2.ll]; exact hk
   have hkc:k < c.Pos.length:=by rw [hat.len]; exact hkp
   have e1:=hat.get k hkc hkp
   obtain ⟨a0,a1,e⟩:=a7 e1
   have hlt:c.Pos[k].toNat < (cW (aM s.Items id).1 id n.Alphas m.Alphas).length:=by
    rw [sE,hla]
    obtain ⟨q,_⟩:=List.getElem?_eq_some_iff.1 e
    exact q
   have ecp:c.Pos[k]=((c.Pos[k].toNat:Nat):Int):=by omega
   refine ⟨c.Pos[k],_,jJ (aT (pos r.Pats)[k]) (aM s.Items id).1,an hkc,by rw [ecp]; exact an hlt,?_,fun hb row hrow=>?_⟩
   ·have:(n.Alphas.map fun a=>jJ a (aM s.Items id).1)[c.Pos[k].toNat]?=some (jJ (aT (pos r.Pats)[k]) (aM s.Items id).1):=by
     rw [List.getElem?_map,e]; rfl
    unfold idx
    rw [if_pos a0]
    exact this
   ·exact Iu (by rw [hrow]; exact List.getElem?_eq_getElem hkp) hb)
 simp only [List.nil_append,List.length_nil,Int.natCast_zero] at h2
 exact h2
theorem J0 {as:List aS} {B:Nat} (h:∀ i∈as,i.L.length≤B) (c:ae) (k:Nat):(An as c k).length≤B:=by
 unfold An
 split
 ·split
  ·rename_i i hi
   obtain ⟨_,_,e⟩:=a7 hi
   exact h i (List.mem_of_getElem? e)
  ·simp
 ·simp
theorem zK {g:ag→ae→aF→aF}:∀ (rs:List ag) (cs:List ae) (ws:List aF),rs.length=ws.length→cs.length=ws.length→(rE g rs cs ws).length=ws.length∧∀ (i:Nat) (v:aF),(rE g rs cs ws)[i]?=some v→∃ (r:ag) (c:ae) (w:aF),rs[i]?=some r∧cs[i]?=some c∧ws[i]?=some w∧v=g r c w
 | [],cs,[],_,_=>⟨by simp [rE],fun i v h=>by simp [rE] at h⟩
 | r :: rs,[],w :: ws,_,h=>by simp at h
 | r :: rs,c :: cs,w :: ws,h1,h2=>by
  have ih:=zK (g:=g) rs cs ws (by simpa using h1) (by simpa using h2)
  unfold rE
  refine ⟨by simp [ih.1],fun i v h=>?_⟩
  cases i with
  | zero=>exact ⟨r,c,w,rfl,rfl,rfl,by simpa using h.symm⟩
  | succ i=>
   obtain ⟨a,b,c',e1,e2,e3,e4⟩:=ih.2 i v (by simpa using h)
   exact ⟨a,b,c',by simpa using e1,by simpa using e2,by simpa using e3,e4⟩
theorem ur {f:aw} {id:Int} {B:Nat}:∀ (as:List a9) (is:List aS),(∀ i∈is,i.L.length≤B)→∀ i∈cW f id as is,i.L.length≤B+1
 | [],is,h,i,hi=>by
  have:cW f id [] is=is:=by cases is <;> rfl
  rw [this] at hi
  have:=h i hi; omega
 | a :: as,[],h,i,hi=>by simp [cW] at hi
 | a :: as,y :: is,h,i,hi=>by
  unfold cW at hi
  rcases List.mem_cons.1 hi with rfl | hi
  ·have:=h y (by simp)
   split
   ·simpa using this
   ·omega
  ·exact ur as is (fun z hz=>h z (by simp [hz])) i hi
def vN (f:aw):Bool:=gD f.Kind && (f.Fields.all vu && decide (f.Fields.length≤5))
def GZ (f:aw):Prop:=f.Kind.size≤1048576∧f.Fields.length≤1048576∧∀ v∈f.Fields,v.S.size≤1048576
def wt (s:ah):Prop:=s.Items.length≤1048576∧∀ x∈s.Items,GZ x.F
def jb (done:List aC) (v:Int):Bool:=match done.getLast? with | none=>true | some y=>decide (y.Id < v)
def sB (nx:Int):List aC→List aC→Bool
 | _,[]=>true
 | done,x :: t=>(vN x.F && (decide (1≤x.Id) && decide (x.Id < nx))) && (jb done x.Id && ((done.all fun y=>!decide (x.F=y.F)) && sB nx (done++[x]) t))
def tX (s:ah):Bool:=(decide (1≤s.Next) && decide (s.Next≤1000000)) && (decide (s.Items.length≤40) && sB s.Next [] s.Items)
theorem FV {α:Type} {xs:List α} {i:Nat} (h:0 < i) (h':i≤xs.length):(xs.take i).getLast?=some (xs[i - 1]'(by omega)):=by
 rw [List.getLast?_eq_getElem?,List.length_take,Nat.min_eq_left h',List.getElem?_take_of_lt (by omega),List.getElem?_eq_getElem (by omega)]
theorem J3 {N:Nat} (hN:1399000000000≤N) (x y:List aL) (hl:x.length≤1099511627776):iq N x y=some (decide (x=y)):=by
 unfold iq
 by_cases c:x.length=y.length
 ·rw [if_neg (by simp; omega)]
  refine (gn (dW N x y) x y c (by omega) (fun a b=>some (decide (a=b))) (fun a _ b _=>rfl) (fun k i=>by simp only [dW,lS,Option.bind_some]) N 0 (by omega) (by omega)).trans ?_
  simp
 ·rw [if_pos (by simp; omega)]
  have : ¬ x=y:=fun e=>c (by rw [e])
  simp [this]
theorem KN {N:Nat} (hN:1399000000000≤N) (x y:aw) (hl:x.Fields.length≤1099511627776):nv N x y=some (decide (x=y)):=by
 unfold nv
 simp only [J3 hN _ _ hl,Option.bind_some,oA,dA]
 obtain ⟨a,b⟩:=x; obtain ⟨c,d⟩:=y
 simp only [aw.mk.injEq,Bool.decide_and]
def I4 (xs:List aC) (f:aw):Int:=match xs.find? (fun x=>decide (x.F=f)) with | some x=>x.Id | none=>0
theorem xo (x:aC) (xs:List aC) (f:aw):I4 (x :: xs) f=if x.F=f then x.Id else I4 xs f:=by
 unfold I4
 rw [List.find?_cons]
 by_cases h:x.F=f <;> simp [h]
theorem Me {N:Nat} (hN:1399000000000≤N) (s:ah) (f:aw) (hl:s.Items.length≤1048576) (hx:∀ x∈s.Items,x.F.Fields.length≤1048576):uK N s f=some (I4 s.Items f):=by
 unfold uK
 refine lp0 hN s.Items (by omega) (iF N s f) (fun t=>some (I4 t f)) (fun n i x t h1 h2 h3 h4 h5 h6 h7=>?_) (fun n i h1 h2=>?_)
 ·simp only [iF,h5,if_true,h4,Option.bind_some,KN hN x.F f (by have:=hx x h2; omega),h6,h7,xo]
  by_cases h:x.F=f <;> simp [h]
 ·simp only [iF,h2,Bool.false_eq_true,if_false]; rfl
theorem LX {N:Nat} (hN:1399000000000≤N) (f:aw) (h:GZ f):rV N f=some (vN f):=by
 obtain ⟨h1,h2,h3⟩:=h
 unfold rV vN tT
 have d1:decide ((f.Fields.length:Int)≤5)=decide (f.Fields.length≤5):=by rw [decide_eq_decide]; omega
 have l1:eM N f.Fields N 0=some (f.Fields.all vu && decide (f.Fields.length≤5)):=lp0 hN f.Fields (by omega) (eM N f.Fields) (fun t=>some (t.all vu && decide (f.Fields.length≤5))) (fun n i x t g1 g2 g3 g4 g5 g6 g7=>by
  simp only [eM,g5,if_true,g4,Option.bind_some,Ld (show 1048578≤N by omega) x (h3 x g2),HK (show 1048578≤N by omega) x (h3 x g2),g6,g7,List.all_cons]
  cases vu x <;> simp) (fun n i g1 g2=>by simp only [eM,g2,Bool.false_eq_true,if_false,d1]; rfl)
 simp only [tt hN _ h1,Option.bind_some,l1,oA]
theorem Ir {done t:List aC} {x:aC} (h:∀ y∈done,y.Id < x.Id):decide (I4 (done++x :: t) x.F=x.Id)=done.all fun y=>!decide (x.F=y.F):=by
 induction done with
 | nil=>
  rw [List.nil_append,xo,if_pos rfl]; simp
 | cons y d ih=>
  rw [List.cons_append,xo,List.all_cons]
  by_cases he:y.F=x.F
  ·have:=h y (by simp)
   rw [if_pos he]
   have e2:decide (x.F=y.F)=true:=decide_eq_true he.symm
   rw [e2,decide_eq_false (by omega)]; simp
  ·rw [if_neg he,ih fun z hz=>h z (by simp [hz])]
   have e2:decide (x.F=y.F)=false:=decide_eq_false (fun e=>he e.symm)
   rw [e2]; simp
theorem KX {N:Nat} (hN:1399000000000≤N) (s:ah) (h:wt s):oX N s=some (tX s):=by
 obtain ⟨h1,h2⟩:=h
 unfold oX tX
 have d1:decide ((40:Int) < (s.Items.length:Int)) = !decide (s.Items.length≤40):=by rw [← decide_not,decide_eq_decide]; omega
 have lp:∀ (n i:Nat),i≤s.Items.length→s.Items.length - i < n→(∀ y∈s.Items.take i,∀ z,(s.Items.take i).getLast?=some z→y.Id≤z.Id)→gp N s n i=some (sB s.Next (s.Items.take i) (s.Items.drop i)):=by
  intro n
  induction n with
  | zero=>intro i _ h; omega
  | succ n ih=>
   intro i hi hm hup
   simp only [gp]
   by_cases hlt:i < s.Items.length
   ·have c1:decide ((i:Int) < (s.Items.length:Int))=true:=decide_eq_true (by omega)
    have hf:=h2 _ (List.getElem_mem hlt)
    have hprev:(if decide (0 < (i:Int))=true then (idx s.Items (IntKind.i64.wrap ((i:Int) - 1))).bind fun x5=>some (decide (s.Items[i].Id≤x5.Id)) else some false)=some (!(jb (s.Items.take i) s.Items[i].Id)):=by
     by_cases h0:0 < i
     ·have e1:IntKind.i64.wrap ((i:Int) - 1)=((i - 1:Nat):Int):=by rw [wr (by omega) (by omega)]; omega
      unfold jb; rw [FV h0 hi,decide_eq_true (show (0:Int) < (i:Int) by omega),e1]
      simp only [if_true,an (show i - 1 < s.Items.length by omega),Option.bind_some]
      rw [← decide_not]; congr 1; rw [decide_eq_decide]; omega
     ·have:i=0:=by omega
      subst this
      simp [jb]
    have htk:s.Items.take (i+1)=s.Items.take i++[s.Items[i]]:=List.take_succ_eq_append_getElem hlt
    have hall:s.Items=s.Items.take i++s.Items[i] :: s.Items.drop (i+1):=by
     rw [← List.drop_eq_getElem_cons hlt,List.take_append_drop]
    rw [List.drop_eq_getElem_cons hlt,sB,← htk]
    simp only [c1,if_true,an hlt,Option.bind_some,LX hN _ hf,hprev,Me hN s s.Items[i].F (by omega) (fun x hx=>(h2 x hx).2.1),wr1 i (by omega)]
    cases vN s.Items[i].F with
    | false=>simp
    | true=>
     by_cases hid:1≤s.Items[i].Id
     ·by_cases hnx:s.Items[i].Id < s.Next
      ·have e1:decide (s.Items[i].Id < 1)=false:=decide_eq_false (by omega)
       have e2:decide (s.Next≤s.Items[i].Id)=false:=decide_eq_false (by omega)
       rw [e1,e2,decide_eq_true hid,decide_eq_true hnx]
       cases hl:(jb (s.Items.take i) s.Items[i].Id) with
       | false=>simp
       | true=>
        have hlow:∀ y∈s.Items.take i,y.Id < s.Items[i].Id:=by
         intro y hy
         cases hg:(s.Items.take i).getLast? with
         | none=>rw [List.getLast?_eq_none_iff] at hg; rw [hg] at hy; cases hy
         | some z=>
          unfold jb at hl
          rw [hg] at hl
          have:=of_decide_eq_true hl
          have:=hup y hy z hg
          omega
        have hd:=Ir (t:=s.Items.drop (i+1)) hlow
        rw [← hall] at hd
        have ih1:=ih (i+1) (by omega) (by omega) (by
         intro y hy z hz
         rw [htk] at hy hz
         rw [List.getLast?_concat] at hz
         have hz:=Option.some.inj hz
         rcases List.mem_append.1 hy with hy | hy
         ·have:=hlow y hy; rw [← hz]; omega
         ·simp at hy; rw [hy,← hz]; exact Int.le_refl _)
        simp only [Bool.not_true,Bool.false_eq_true,if_false,Option.bind_some,hd,ih1,Bool.true_and,Bool.and_self]
        cases (s.Items.take i).all fun y=>!decide (s.Items[i].F=y.F) <;> simp
      ·have e2:decide (s.Next≤s.Items[i].Id)=true:=decide_eq_true (by omega)
       rw [e2,decide_eq_false hnx]
       cases decide (s.Items[i].Id < 1) <;> simp
     ·have e1:decide (s.Items[i].Id < 1)=true:=decide_eq_true (by omega)
      rw [e1,decide_eq_false hid]
      simp
   ·have c1:decide ((i:Int) < (s.Items.length:Int))=false:=decide_eq_false (by omega)
    rw [List.drop_of_length_le (by omega)]
    simp only [c1,Bool.false_eq_true,if_false]; rfl
 have l0:=lp N 0 (by omega) (by omega) (by simp)
 rw [List.take_zero,List.drop_zero,show ((0:Nat):Int)=0 from rfl] at l0
 simp only [in0,Option.bind_some,d1,l0]
 cases (decide (1≤s.Next) && decide (s.Next≤1000000)) <;> cases decide (s.Items.length≤40) <;> simp
theorem Lx {N:Nat} (hN:1399000000000≤N) (f:aw) (h:GZ f):qZ N f=some (vN f):=by
 obtain ⟨h1,h2,h3⟩:=h
 unfold qZ vN
 have l1:f8 N f N 0=some (f.Fields.all vu):=lp0 hN f.Fields (by omega) (f8 N f) (fun t=>some (t.all vu)) (fun n i x t g1 g2 g3 g4 g5 g6 g7=>by
  simp only [f8,g5,if_true,g4,Option.bind_some,HK (show 1048578≤N by omega) x (h3 x g2),g6,g7,List.all_cons]
  cases vu x <;> simp) (fun n i g1 g2=>by simp only [f8,g2,Bool.false_eq_true,if_false]; rfl)
 have d1:decide ((5:Int) < (f.Fields.length:Int)) = !decide (f.Fields.length≤5):=by rw [← decide_not,decide_eq_decide]; omega
 simp only [tu hN _ h1,Option.bind_some,d1,l1]
 cases gD f.Kind <;> cases decide (f.Fields.length≤5) <;> simp
theorem JN {N:Nat} (hN:1399000000000≤N) (x y:aw) (hl:x.Fields.length≤1099511627776):mv N x y=some (decide (x=y)):=by
 have e:bI N x.Fields y.Fields=some (decide (x.Fields=y.Fields)):=by
  unfold bI
  by_cases c:x.Fields.length=y.Fields.length
  ·rw [if_neg (by simp; omega)]
   refine (gn (bh N x.Fields y.Fields) x.Fields y.Fields c (by omega) (fun a b=>some (decide (a=b))) (fun a _ b _=>rfl) (fun k i=>by simp only [bh,lS,Option.bind_some]) N 0 (by omega) (by omega)).trans ?_
   simp
  ·rw [if_pos (by simp; omega)]
   have : ¬ x.Fields=y.Fields:=fun e=>c (by rw [e])
   simp [this]
 unfold mv
 simp only [e,Option.bind_some,oA,dA]
 obtain ⟨a,b⟩:=x; obtain ⟨c,d⟩:=y
 simp only [aw.mk.injEq,Bool.decide_and]
theorem IK {α:Type} {xs:List α} {i:Nat} (h:i≤xs.length):ssl xs 0 (i:Int)=some (xs.take i):=by
 unfold ssl
 have:(0:Int)≤0∧(0:Int)≤(i:Int)∧(i:Int)≤(xs.length:Int):=by omega
 simp [h]
theorem JK {N:Nat} (hN:1399000000000≤N) (s:ah) (h:wt s):oW N s=some (tX s):=by
 obtain ⟨h1,h2⟩:=h
 unfold oW tX
 have d1:decide ((40:Int) < (s.Items.length:Int)) = !decide (s.Items.length≤40):=by rw [← decide_not,decide_eq_decide]; omega
 simp only [in1,Option.bind_some,d1]
 by_cases hn:1≤s.Next∧s.Next≤1000000
 ·have lp:∀ (n i:Nat),i≤s.Items.length→s.Items.length - i < n→cH N s n i=some (sB s.Next (s.Items.take i) (s.Items.drop i)):=by
   intro n
   induction n with
   | zero=>intro i _ h; omega
   | succ n ih=>
    intro i hi hm
    simp only [cH]
    by_cases hlt:i < s.Items.length
    ·have c1:decide ((i:Int) < (s.Items.length:Int))=true:=decide_eq_true (by omega)
     have hf:=h2 _ (List.getElem_mem hlt)
     have hnx:IntKind.i64.wrap (s.Next - 1)=s.Next - 1:=wr (by omega) (by omega)
     have hprev:(if decide (0 < (i:Int))=true then (idx s.Items (IntKind.i64.wrap ((i:Int) - 1))).bind fun x5=>some (decide (s.Items[i].Id≤x5.Id)) else some false)=some (!(jb (s.Items.take i) s.Items[i].Id)):=by
      by_cases h0:0 < i
      ·have e1:IntKind.i64.wrap ((i:Int) - 1)=((i - 1:Nat):Int):=by rw [wr (by omega) (by omega)]; omega
       unfold jb; rw [FV h0 hi,decide_eq_true (show (0:Int) < (i:Int) by omega),e1]
       simp only [if_true,an (show i - 1 < s.Items.length by omega),Option.bind_some]
       rw [← decide_not]; congr 1; rw [decide_eq_decide]; omega
      ·have:i=0:=by omega
       subst this
       simp [jb]
     have hdup:dP N (i:Int) (cH N s n) s.Items[i] (s.Items.take i) N 0=some ((((s.Items.take i).all fun y=>!decide (s.Items[i].F=y.F))) && sB s.Next (s.Items.take (i+1)) (s.Items.drop (i+1))):=by
      refine lp0 hN (s.Items.take i) (by rw [List.length_take]; omega) (dP N (i:Int) (cH N s n) s.Items[i] (s.Items.take i)) (fun t=>some ((t.all fun y=>!decide (s.Items[i].F=y.F)) && sB s.Next (s.Items.take (i+1)) (s.Items.drop (i+1)))) (fun m k y t g1 g2 g3 g4 g5 g6 g7=>?_) (fun m k g1 g2=>?_)
      ·simp only [dP,g5,if_true,g4,Option.bind_some,JN hN s.Items[i].F y.F (by have:=hf.2.1; omega),g6,g7,List.all_cons]
       cases decide (s.Items[i].F=y.F) <;> simp
      ·simp only [dP,g2,Bool.false_eq_true,if_false,wr1 i (by omega),ih (i+1) (by omega) (by omega)]; rfl
     have d2:decide (s.Items[i].Id≤s.Next - 1)=decide (s.Items[i].Id < s.Next):=by rw [decide_eq_decide]; omega
     have htk:s.Items.take (i+1)=s.Items.take i++[s.Items[i]]:=List.take_succ_eq_append_getElem hlt
     rw [List.drop_eq_getElem_cons hlt,sB,← htk]
     simp only [c1,if_true,an hlt,Option.bind_some,Lx hN _ hf,in1,hnx,d2,hprev,IK (show i≤s.Items.length by omega),hdup]
     cases vN s.Items[i].F with
     | false=>simp
     | true=>
      cases (decide (1≤s.Items[i].Id) && decide (s.Items[i].Id < s.Next)) with
      | false=>simp
      | true=>
       cases (jb (s.Items.take i) s.Items[i].Id) <;> simp
    ·have c1:decide ((i:Int) < (s.Items.length:Int))=false:=decide_eq_false (by omega)
     rw [List.drop_of_length_le (by omega)]
     simp only [c1,Bool.false_eq_true,if_false]; rfl
  have l0:=lp N 0 (by omega) (by omega)
  rw [List.take_zero,List.drop_zero,show ((0:Nat):Int)=0 from rfl] at l0
  rw [l0,decide_eq_true hn.1,decide_eq_true hn.2]
  cases decide (s.Items.length≤40) <;> simp
 ·have:(decide (1≤s.Next) && decide (s.Next≤1000000))=false:=by
   rw [Bool.eq_false_iff]
   intro h
   simp only [Bool.and_eq_true,decide_eq_true_eq] at h
   exact hn h
  rw [this]
  cases decide (s.Items.length≤40) <;> simp
theorem Il {N:Nat} (hN:1399000000000≤N) (as:List a9) (cs:List ae) (p:av) (hp:p.Args.length≤1048576) (hl:as.length≤4194304) (h:∀ a∈as,jL a) :
  ja N ⟨as,cs⟩ p=some ((br as (aT p)).1,⟨(br as (aT p)).2,cs⟩):=by
 unfold ja
 rw [Ko hN p hp,Option.bind_some]
 have lp:∀ (n i:Nat),i≤as.length→as.length - i < n→cC N ⟨as,cs⟩ (aT p) n i =
   some (match (as.drop i).findIdx? (fun x=>decide (x=aT p)) with | some j=>((i+j:Nat):Int) | none=>(as.length:Int),⟨match (as.drop i).findIdx? (fun x=>decide (x=aT p)) with | some j=>as | none=>as++[aT p],cs⟩):=by
  intro n
  induction n with
  | zero=>intro i _ h; omega
  | succ n ih=>
   intro i hi hn
   by_cases hlt:i < as.length
   ·have c1:decide ((i:Int) < (as.length:Int))=true:=decide_eq_true (by omega)
    rw [List.drop_eq_getElem_cons hlt,List.findIdx?_cons]
    simp only [cC,c1,if_true,an hlt,Option.bind_some,Hx hN _ _ (h _ (List.getElem_mem hlt)),wr1 i (by omega),ih (i+1) (by omega) (by omega)]
    by_cases he:as[i]=aT p
    ·simp [he]
    ·simp only [he,decide_false,Bool.false_eq_true,if_false]
     cases (as.drop (i+1)).findIdx? (fun x=>decide (x=aT p)) with
     | none=>rfl
     | some j=>simp only [Option.map_some]; rw [show i+(j+1)=i+1+j by omega]
   ·have c1:decide ((i:Int) < (as.length:Int))=false:=decide_eq_false (by omega)
    rw [List.drop_of_length_le (by omega)]
    simp only [cC,c1,Bool.false_eq_true,if_false,bS (show as.length+[aT p].length≤1099511627776 by simp; omega),Option.bind_some,List.findIdx?_nil]
    have e:IntKind.i64.wrap (((as++[aT p]).length:Int) - 1)=(as.length:Int):=by
     rw [wr (by simp only [List.length_append,List.length_cons,List.length_nil]; omega) (by simp only [List.length_append,List.length_cons,List.length_nil]; omega)]; simp only [List.length_append,List.length_cons,List.length_nil]; omega
    rw [e]
 have:=lp N 0 (by omega) (by omega)
 rw [show ((0:Nat):Int)=0 from rfl,List.drop_zero] at this
 rw [this]
 unfold br
 cases as.findIdx? (fun x=>decide (x=aT p)) <;> simp
theorem Kh {N:Nat} (hN:1399000000000≤N) (d:bo) (h:A0 d.Rules):te N d=some (cr d):=by
 obtain ⟨h1,h2,h3⟩:=h
 unfold te cr
 refine lp' hN d.Rules (by omega) (fun n (s:List a9 × List ae) i=>eK N d n s.1 s.2 i) (fun t s=>some (ef s.1 s.2 t)) (fun s t=>s.1.length+pg t≤1048576∧s.2.length+t.length≤1048576∧∀ a∈s.1,jL a) ([],[]) ⟨by simpa using h2,by simpa using h1,by simp⟩ (fun n s i r t g1 g2 g3 g4 g5 g6 gI ih=>?_) (fun n s i g1 g2 gI=>?_)
 ·obtain ⟨i1,i2,i3⟩:=gI
  rw [oa] at i1
  simp only [List.length_cons] at i2
  simp only [eK,g5,if_true,g4,Option.bind_some,ef]
  have key:∀ (as:List a9),as.length+r.Pats.length+pg t≤1048576→(∀ a∈as,jL a)→fR N s.2 (i:Int) (eK N d n) r N as [] [] 0=some (ef (bt as [] [] r.Pats).1 (s.2++[⟨(bt as [] [] r.Pats).2.1,(bt as [] [] r.Pats).2.2⟩]) t):=by
   intro as ha hz
   refine lp' hN r.Pats (by omega) (fun m (u:List a9 × List Int × List Int) k=>fR N s.2 (i:Int) (eK N d n) r m u.1 u.2.1 u.2.2 k) (fun l u=>some (ef (bt u.1 u.2.2 u.2.1 l).1 (s.2++[⟨(bt u.1 u.2.2 u.2.1 l).2.1,(bt u.1 u.2.2 u.2.1 l).2.2⟩]) t))
    (fun u l=>u.1.length+l.length+pg t≤1048576∧u.2.1.length+u.2.2.length+l.length≤1048576∧∀ a∈u.1,jL a) (as,[],[]) ⟨ha,by simp; omega,hz⟩ (fun m u k p l f1 f2 f3 f4 f5 f6 fI fh=>?_) (fun m u k f1 f2 fI=>?_)
   ·obtain ⟨j1,j2,j3⟩:=fI
    simp only [List.length_cons] at j1 j2
    have hp:=h3 r g2 p f2
    have hpl:=(sj u.1 (aT p)).1
    have hall:=uQ j3 (vL hp)
    simp only [fR,f5,if_true,f4,Option.bind_some,Il hN u.1 s.2 p hp (by omega) j3,f6,bt]
    cases hnot:p.Not with
    | true=>
     simp only [if_true,bS (show u.2.1.length+[(br u.1 (aT p)).1].length≤1099511627776 by simp; omega),Option.bind_some]
     exact fh ((br u.1 (aT p)).2,u.2.1++[(br u.1 (aT p)).1],u.2.2) ⟨by simp only; omega,by simp; omega,hall⟩
    | false=>
     simp only [Bool.false_eq_true,if_false,bS (show u.2.2.length+[(br u.1 (aT p)).1].length≤1099511627776 by simp; omega),Option.bind_some]
     exact fh ((br u.1 (aT p)).2,u.2.1,u.2.2++[(br u.1 (aT p)).1]) ⟨by simp only; omega,by simp; omega,hall⟩
   ·obtain ⟨j1,j2,j3⟩:=fI
    simp only [fR,f2,Bool.false_eq_true,if_false,bS (show s.2.length+[(⟨u.2.2,u.2.1⟩:ae)].length≤1099511627776 by simp; omega),Option.bind_some,g6,bt]
    exact ih (u.1,s.2++[⟨u.2.2,u.2.1⟩]) ⟨by simp only [List.length_nil] at j1 ⊢; omega,by simp; omega,j3⟩
  exact key s.1 (by omega) i3
 ·simp only [eK,g2,Bool.false_eq_true,if_false]; rfl
theorem H9 {N:Nat} (hN:1399000000000≤N) (x y:List Int) (hl:x.length≤1099511627776):jU N x y=some (decide (x=y)):=by
 unfold jU
 by_cases c:x.length=y.length
 ·rw [if_neg (by simp; omega)]
  refine (gn (iB N x y) x y c (by omega) (fun a b=>some (decide (a=b))) (fun a _ b _=>rfl) (fun k i=>rfl) N 0 (by omega) (by omega)).trans ?_
  simp
 ·rw [if_pos (by simp; omega)]
  have : ¬ x=y:=fun e=>c (by rw [e])
  simp [this]
theorem JW {N:Nat} (hN:1399000000000≤N) (p:av) (hl:p.Args.length≤1048576):oQ N p=some (aT p):=by
 have lp:∀ (n i:Nat) (cs:List aL) (as:List Int),i≤p.Args.length→p.Args.length - i < n→cs.length≤i→as.length≤i →
   fq N p n cs as i=some ⟨p.Kind,(p.Args.length:Int),cs++jQ (p.Args.drop i),as++ats i (p.Args.drop i)⟩:=by
  intro n
  induction n with
  | zero=>intro i _ _ _ h; omega
  | succ n ih=>
   intro i cs as hi hn h1 h2
   by_cases hlt:i < p.Args.length
   ·have c1:decide ((i:Int) < (p.Args.length:Int))=true:=decide_eq_true (by omega)
    rw [List.drop_eq_getElem_cons hlt]
    simp only [fq,c1,if_true,an hlt,Option.bind_some,wr1 i (by omega),jQ,ats]
    by_cases hk:p.Args[i].K=2
    ·simp only [hk,decide_true,if_true,bS (show cs.length+[p.Args[i].V].length≤1099511627776 by simp; omega),bS (show as.length+[(i:Int)].length≤1099511627776 by simp; omega),Option.bind_some]
     rw [ih (i+1) _ _ (by omega) (by omega) (by simp; omega) (by simp; omega)]; simp
    ·simp only [hk,decide_false,Bool.false_eq_true,if_false]
     exact ih (i+1) _ _ (by omega) (by omega) (by omega) (by omega)
   ·have c1:decide ((i:Int) < (p.Args.length:Int))=false:=decide_eq_false (by omega)
    rw [List.drop_of_length_le (by omega)]
    simp only [fq,c1,Bool.false_eq_true,if_false,jQ,ats,List.append_nil]
 have:=lp N 0 [] [] (by omega) (by omega) (by simp) (by simp)
 unfold oQ aT
 simpa using this
theorem HD {N:Nat} (hN:1399000000000≤N) (x y:a9) (h:jL x):ju N x y=some (decide (x=y)):=by
 unfold ju
 simp only [H9 hN _ _ (show x.At.length≤1099511627776 by have:=h.2; omega),J3 hN _ _ (show x.Consts.length≤1099511627776 by have:=h.1; omega),Option.bind_some,oA,dA]
 obtain ⟨a,b,c,d⟩:=x; obtain ⟨e,f,g,k⟩:=y
 congr 1
 rw [Bool.eq_iff_iff]
 simp only [a9.mk.injEq,Bool.and_eq_true,decide_eq_true_eq]
 constructor
 ·rintro ⟨⟨⟨h1,h2⟩,h3⟩,h4⟩; exact ⟨h1,h2,h4,h3⟩
 ·rintro ⟨h1,h2,h4,h3⟩; exact ⟨⟨⟨h1,h2⟩,h3⟩,h4⟩
end Go.Proofs.YtnnkgijdbebnaaaGreat
