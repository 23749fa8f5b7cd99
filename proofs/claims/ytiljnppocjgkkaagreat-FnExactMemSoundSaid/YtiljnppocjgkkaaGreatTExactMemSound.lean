/- Plain laws, one after the other: PLMemSound. -/
import Derived.Test.YtiljnppocjgkkaaGreatPLib
import Derived.Test.YtiljnppocjgkkaaGreatWExactMemSoundPur
import Derived.Test.YtiljnppocjgkkaaGreatWExactMemSoundMod
/-
 Plain laws of common loops, for the cores. No program.
-/
namespace Go.Proofs.YtiljnppocjgkkaaGreat
open Eng
set_option linter.unusedVariables false
set_option linter.unusedSimpArgs false
theorem bQ {α:Type} {xs ys:List α} (h:xs.length+ys.length≤4294967296):app xs ys=some (xs++ys):=by unfold app; rw [if_pos h]
theorem km {α:Type} {ys:List α} (h:ys.length≤4294967296):app ([]:List α) ys=some ys:=by rw [bQ (by simpa using h)]; rfl
theorem vk {α:Type} (f:Nat→Int→Option Bool) (xs:List α) (hl:xs.length≤4294967296) (p:α→Bool) (z:Bool) (i0:Nat)
  (hs:∀ n (i:Nat) (x:α),i0≤i→idx xs (i:Int)=some x→x∈xs→decide ((i:Int) < (xs.length:Int))=true→IntKind.i64.wrap ((i:Int)+1)=((i+1:Nat):Int)→f (n+1) i=if p x then f n ((i+1:Nat):Int) else some false)
  (he:∀ n (i:Nat),decide ((i:Int) < (xs.length:Int))=false→f (n+1) i=some z) :
  ∀ (n i:Nat),i0≤i→i≤xs.length→xs.length - i < n→f n i=some ((xs.drop i).all p && z):=by
 intro n
 induction n with
 | zero=>intro i _ _ h; omega
 | succ n ih=>
  intro i h0 hi hn
  by_cases hlt:i < xs.length
  ·rw [List.drop_eq_getElem_cons hlt,List.all_cons,hs n i xs[i] h0 (ag hlt) (List.getElem_mem hlt) (decide_eq_true (by omega)) (wr1 i (by omega)),ih (i+1) (by omega) (by omega) (by omega)]
   cases p xs[i] <;> simp
  ·rw [he n i (decide_eq_false (by omega)),List.drop_of_length_le (by omega),List.all_nil,Bool.true_and]
theorem vI {α:Type} (f:Nat→Int→Option Int) (xs:List α) (hl:xs.length≤4294967296) (p:α→Bool)
  (hs:∀ n (i:Nat) (x:α),idx xs (i:Int)=some x→x∈xs→decide ((i:Int) < (xs.length:Int))=true→IntKind.i64.wrap ((i:Int)+1)=((i+1:Nat):Int)→f (n+1) i=if p x then some (i:Int) else f n ((i+1:Nat):Int))
  (he:∀ n (i:Nat),decide ((i:Int) < (xs.length:Int))=false→f (n+1) i=some (-1)) :
  ∀ (n i:Nat),i≤xs.length→xs.length - i < n→f n i=some (match (xs.drop i).findIdx? p with | some j=>((i+j:Nat):Int) | none=>-1):=by
 intro n
 induction n with
 | zero=>intro i _ h; omega
 | succ n ih=>
  intro i hi hn
  by_cases hlt:i < xs.length
  ·rw [List.drop_eq_getElem_cons hlt,List.findIdx?_cons,hs n i xs[i] (ag hlt) (List.getElem_mem hlt) (decide_eq_true (by omega)) (wr1 i (by omega)),ih (i+1) (by omega) (by omega)]
   cases p xs[i]
   ·simp only [Bool.false_eq_true,if_false]
    cases (xs.drop (i+1)).findIdx? p with
    | none=>rfl
    | some j=>simp only [Option.map_some]; congr 2; omega
   ·simp
  ·rw [he n i (decide_eq_false (by omega)),List.drop_of_length_le (by omega)]; rfl
theorem Gg {α:Type} (xs:List α) (p:α→Bool):decide (0≤(match xs.findIdx? p with | some j=>((0+j:Nat):Int) | none=>-1))=xs.any p:=by
 cases h:xs.findIdx? p with
 | none=>
  rw [List.findIdx?_eq_none_iff] at h
  simp only [show ¬ (0:Int) ≤ -1 by omega,decide_false]
  symm; rw [List.any_eq_false]; intro x hx; simp [h x hx]
 | some j=>
  simp only [Nat.zero_add,show (0:Int)≤(j:Int) by omega,decide_true]
  rw [List.findIdx?_eq_some_iff_getElem] at h
  obtain ⟨hj,hp,_⟩:=h
  symm; rw [List.any_eq_true]; exact ⟨_,List.getElem_mem hj,hp⟩
theorem n9 (a b:Bool):(if a=true then some b else some false)=some (a && b):=by cases a <;> rfl
theorem orS (a b:Bool):(if a=true then some true else some b)=some (a || b):=by cases a <;> rfl
end Go.Proofs.YtiljnppocjgkkaaGreat
/-
 Plain laws of loops over lists, one law for all. No program.
-/
namespace Go.Proofs.YtiljnppocjgkkaaGreat
open Eng
set_option linter.unusedVariables false
set_option linter.unusedSimpArgs false
theorem lp {σ α β:Type} (xs:List α) (hl:xs.length≤4294967296) (f:Nat→σ→Int→Option β) (G:List α→σ→Option β) (I:σ→List α→Prop)
  (hs:∀ n s (i:Nat) (x:α) (t:List α),xs.drop i=x :: t→x∈xs→i < xs.length→idx xs (i:Int)=some x→decide ((i:Int) < (xs.length:Int))=true→IntKind.i64.wrap ((i:Int)+1)=((i+1:Nat):Int)→I s (x :: t) →
   (∀ s',I s' t→f n s' ((i+1:Nat):Int)=G t s')→f (n+1) s i=G (x :: t) s)
  (he:∀ n s (i:Nat),i=xs.length→decide ((i:Int) < (xs.length:Int))=false→I s []→f (n+1) s i=G [] s) :
  ∀ (n i:Nat) (s:σ),i≤xs.length→xs.length - i < n→I s (xs.drop i)→f n s i=G (xs.drop i) s:=by
 intro n
 induction n with
 | zero=>intro i s _ h; omega
 | succ n ih=>
  intro i s hi hn hI
  by_cases hlt:i < xs.length
  ·have hd:=List.drop_eq_getElem_cons hlt
   rw [hd] at hI ⊢
   exact hs n s i _ _ hd (List.getElem_mem hlt) hlt (ag hlt) (decide_eq_true (by omega)) (wr1 i (by omega)) hI (fun s' hs'=>ih (i+1) s' (by omega) (by omega) hs')
  ·have hd:xs.drop i=[]:=List.drop_of_length_le (by omega)
   rw [hd] at hI ⊢
   exact he n s i (by omega) (decide_eq_false (by omega)) hI
theorem lp' {σ α β:Type} {N:Nat} (hN:1099000000000≤N) (xs:List α) (hl:xs.length≤4294967296) (f:Nat→σ→Int→Option β) (G:List α→σ→Option β) (I:σ→List α→Prop) (s:σ) (h0:I s xs)
  (hs:∀ n s (i:Nat) (x:α) (t:List α),xs.drop i=x :: t→x∈xs→i < xs.length→idx xs (i:Int)=some x→decide ((i:Int) < (xs.length:Int))=true→IntKind.i64.wrap ((i:Int)+1)=((i+1:Nat):Int)→I s (x :: t) →
   (∀ s',I s' t→f n s' ((i+1:Nat):Int)=G t s')→f (n+1) s i=G (x :: t) s)
  (he:∀ n s (i:Nat),i=xs.length→decide ((i:Int) < (xs.length:Int))=false→I s []→f (n+1) s i=G [] s):f N s 0=G xs s:=by
 have:=lp xs hl f G I hs he N 0 s (by omega) (by omega) (by simpa using h0)
 simpa using this
theorem lp0 {α β:Type} {N:Nat} (hN:1099000000000≤N) (xs:List α) (hl:xs.length≤4294967296) (f:Nat→Int→Option β) (G:List α→Option β)
  (hs:∀ n (i:Nat) (x:α) (t:List α),xs.drop i=x :: t→x∈xs→i < xs.length→idx xs (i:Int)=some x→decide ((i:Int) < (xs.length:Int))=true→IntKind.i64.wrap ((i:Int)+1)=((i+1:Nat):Int) →
   f n ((i+1:Nat):Int)=G t→f (n+1) i=G (x :: t))
  (he:∀ n (i:Nat),i=xs.length→decide ((i:Int) < (xs.length:Int))=false→f (n+1) i=G []):f N 0=G xs:=by
 have:=lp' (σ:=Unit) hN xs hl (fun n _ i=>f n i) (fun t _=>G t) (fun _ _=>True) () trivial (fun n _ i x t h1 h2 h3 h4 h5 h6 _ h8=>hs n i x t h1 h2 h3 h4 h5 h6 (h8 () trivial)) (fun n _ i h1 h2 _=>he n i h1 h2)
 simpa using this
theorem LC (a b:Bool):(if (!a)=true then some true else some b)=some (!a || b):=by cases a <;> rfl
def zv:aP:=⟨0,0,⟨#[]⟩⟩
def tX (p:List aB) (n:ByteArray):aP × Bool:=match p.find? (fun b=>seq b.Name n) with
 | some b=>(b.V,true)
 | none=>(zv,false)
theorem zP (b:aB) (p:List aB) (n:ByteArray):tX (b :: p) n=if seq b.Name n=true then (b.V,true) else tX p n:=by
 unfold tX; rw [List.find?_cons]
 cases seq b.Name n <;> simp
theorem Jz {N:Nat} (hN:1099000000000≤N) (p:List aB) (n:ByteArray) (hl:p.length≤4294967296):oC N p n=some (tX p n):=by
 unfold oC
 have:∀ (k i:Nat),i≤p.length→p.length - i < k→fJ N p n k i=some (tX (p.drop i) n):=by
  intro k
  induction k with
  | zero=>intro i _ h; omega
  | succ k ih=>
   intro i hi hk
   simp only [fJ]
   by_cases hlt:i < p.length
   ·have c1:decide ((i:Int) < (p.length:Int))=true:=decide_eq_true (by omega)
    rw [List.drop_eq_getElem_cons hlt,zP]
    simp only [c1,if_true,ag hlt,Option.bind_some,wr1 i (by omega),ih (i+1) (by omega) (by omega)]
    cases seq p[i].Name n <;> rfl
   ·have c1:decide ((i:Int) < (p.length:Int))=false:=decide_eq_false (by omega)
    simp only [c1,Bool.false_eq_true,if_false]
    rw [List.drop_of_length_le (by omega)]; rfl
 exact this N 0 (by omega) (by omega)
def cV (b0:List aB):List bk→List aP→List aB→List aB × Bool
 | a :: as,v :: vs,s=>
  if a.K=2 then (if bb a.V v=true then cV b0 as vs s else (b0,false))
  else if a.K=1 then (if (tX s a.S).2=true then (if bb (tX s a.S).1 v=true then cV b0 as vs s else (b0,false)) else cV b0 as vs (s++[⟨a.S,v⟩]))
  else cV b0 as vs s
 | _,_,s=>(s,true)
theorem Cm {N:Nat} (hN:1099000000000≤N) (p:ao) (f:av) (b:List aB) (he:p.Args.length=f.Fields.length) (hl:p.Args.length≤1048576) (hb:b.length≤2147483648):∀ (n i:Nat) (s:List aB),i≤p.Args.length→p.Args.length - i < n→s.length≤2147483648+i →
  ev N p f b n s i=some (cV b (p.Args.drop i) (f.Fields.drop i) s):=by
 intro n
 induction n with
 | zero=>intro i s _ h; omega
 | succ n ih=>
  intro i s hi hn hs
  simp only [ev]
  by_cases hlt:i < p.Args.length
  ·have c1:decide ((i:Int) < (p.Args.length:Int))=true:=decide_eq_true (by omega)
   have hlt':i < f.Fields.length:=by omega
   rw [List.drop_eq_getElem_cons hlt,List.drop_eq_getElem_cons hlt',cV]
   simp only [c1,if_true,ag hlt,ag hlt',Option.bind_some,Jz hN s _ (show s.length≤4294967296 by omega),km (show b.length≤4294967296 by omega),bQ (show s.length+[(⟨p.Args[i].S,f.Fields[i]⟩:aB)].length≤4294967296 by simp; omega),wr1 i (by omega),n9,orS]
   have ih1:=ih (i+1) s (by omega) (by omega) (by omega)
   have ih2:=ih (i+1) (s++[⟨p.Args[i].S,f.Fields[i]⟩]) (by omega) (by omega) (by simp; omega)
   by_cases k2:p.Args[i].K=2
   ·have k1 : ¬ p.Args[i].K=1:=by omega
    simp only [k2,k1,decide_true,decide_false,if_true,if_false,Bool.true_and,Bool.false_and,Bool.or_false,Bool.false_eq_true,Option.bind_some,show ¬ (2:Int)=1 by omega]
    cases bb p.Args[i].V f.Fields[i] with
    | true=>simpa using ih1
    | false=>simp
   ·by_cases k1:p.Args[i].K=1
    ·simp only [k1,decide_true,decide_false,if_true,if_false,Bool.true_and,Bool.false_and,Bool.false_or,Bool.false_eq_true,Option.bind_some,show ¬ (1:Int)=2 by omega]
     cases (tX s p.Args[i].S).2 with
     | true=>
      simp only [if_true,Bool.not_true,Bool.true_and,Bool.false_eq_true,if_false]
      cases bb (tX s p.Args[i].S).1 f.Fields[i] with
      | true=>simpa using ih1
      | false=>simp
     | false=>simpa using ih2
    ·simp only [k1,k2,decide_false,if_false,Bool.false_and,Bool.false_or,Bool.or_false,Bool.false_eq_true,Option.bind_some]
     simpa using ih1
  ·have c1:decide ((i:Int) < (p.Args.length:Int))=false:=decide_eq_false (by omega)
   simp only [c1,Bool.false_eq_true,if_false]
   rw [List.drop_of_length_le (by omega)]
   rfl
def bM (p:ao) (f:av) (b:List aB):List aB × Bool:=if seq p.Kind f.Kind=true∧p.Args.length=f.Fields.length then cV b p.Args f.Fields b else (b,false)
theorem DX {N:Nat} (hN:1099000000000≤N) (p:ao) (f:av) (b:List aB) (hl:p.Args.length≤1048576) (hb:b.length≤2147483648):iX N p f b=some (bM p f b):=by
 unfold iX bM
 rw [km (by omega)]
 simp only [Option.bind_some,orS]
 cases hk:seq p.Kind f.Kind with
 | false=>simp
 | true=>
  by_cases he:p.Args.length=f.Fields.length
  ·have he':decide ((p.Args.length:Int)=(f.Fields.length:Int))=true:=decide_eq_true (by omega)
   have:=(Cm hN p f b he hl hb N 0 b (by omega) (by omega) (by omega))
   simp only [he',he,Bool.not_true,Bool.or_false,Bool.false_eq_true,if_false,true_and,if_true]
   simpa using this
  ·have he':decide ((p.Args.length:Int)=(f.Fields.length:Int))=false:=decide_eq_false (by omega)
   simp [he',he]
theorem pF {b0:List aB}:∀ (as:List bk) (vs:List aP) (s:List aB),(cV b0 as vs s).1.length≤b0.length∨(cV b0 as vs s).1.length≤s.length+as.length
 | [],vs,s=>.inr (by simp [cV])
 | a :: as,[],s=>.inr (by simp [cV])
 | a :: as,v :: vs,s=>by
  have h1:=pF (b0:=b0) as vs s
  have h2:=pF (b0:=b0) as vs (s++[⟨a.S,v⟩])
  simp only [List.length_append,List.length_cons,List.length_nil] at h1 h2 ⊢
  unfold cV
  split
  ·split
   ·omega
   ·exact .inl (Nat.le_refl _)
  ·split
   ·split
    ·split
     ·omega
     ·exact .inl (Nat.le_refl _)
    ·omega
   ·omega
theorem qY (p:ao) (f:av) (b:List aB):(bM p f b).1.length≤b.length+p.Args.length:=by
 unfold bM
 split
 ·have:=pF (b0:=b) p.Args f.Fields b; omega
 ·simp
def eC (l:List ao):Nat:=(l.map fun p=>p.Args.length).sum
theorem gH (p:ao) (t:List ao):eC (p :: t)=p.Args.length+eC t:=by simp [eC]
theorem AC (n:Nat):∀ (l:List ao),eC (l.take n)≤eC l:=by
 induction n with
 | zero=>intro l; simp [eC]
 | succ n ih=>
  intro l
  cases l with
  | nil=>simp
  | cons p t=>rw [List.take_succ_cons,gH,gH]; have:=ih t; omega
def pos (l:List ao):List ao:=l.filter fun p=>!p.Not
theorem uD:∀ (l:List ao),eC (pos l)≤eC l
 | []=>by simp [pos]
 | p :: t=>by
  have:=uD t
  unfold pos at this ⊢
  rw [List.filter_cons,gH]
  split
  ·rw [gH]; omega
  ·omega
theorem IW (l:List ao):(l.filter fun p=>p.Not == false)=pos l:=by
 unfold pos; congr 1; funext p; cases p.Not <;> rfl
def De:av:=⟨⟨#[]⟩,[]⟩
def aH (xs:List an) (v:Int):av × Bool:=match xs.find? (fun x=>decide (x.Id=v)) with | some x=>(x.F,true) | none=>(De,false)
theorem ux (x:an) (xs:List an) (v:Int):aH (x :: xs) v=if x.Id=v then (x.F,true) else aH xs v:=by
 unfold aH
 rw [List.find?_cons]
 by_cases h:x.Id=v <;> simp [h]
theorem DB {xs:List an} (hx:∀ x∈xs,x.F.Fields.length≤1048576) (v:Int):(aH xs v).1.Fields.length≤1048576:=by
 unfold aH
 split
 ·rename_i x h; exact hx x (List.mem_of_find?_eq_some h)
 ·simp [De]
def cD (xs:List an):List ao→List Int→List aB→List aB × Bool
 | [],[],l=>(l,true)
 | p :: t,v :: ids,l=>if (aH xs v).2=true∧(bM p (aH xs v).1 l).2=true then cD xs t ids (bM p (aH xs v).1 l).1 else ([],false)
 | _,_,_=>([],false)
theorem w5 {xs:List an}:∀ (ps:List ao) (ids:List Int) (l:List aB),(cD xs ps ids l).1.length≤l.length+eC ps
 | [],[],l=>by simp [cD]
 | [],v :: ids,l=>by simp [cD]
 | p :: t,[],l=>by simp [cD]
 | p :: t,v :: ids,l=>by
  have h1:=qY p (aH xs v).1 l
  have h2:=w5 (xs:=xs) t ids (bM p (aH xs v).1 l).1
  rw [gH]
  unfold cD
  split
  ·omega
  ·simp
def we (p:ao) (l:List aB) (xs:List an):Nat:=xs.countP fun x=>(bM p x.F l).2
theorem Bt (p:ao) (l:List aB) (xs:List an):we p l xs≤xs.length:=List.countP_le_length
def iO:List bk→List aP
 | []=>[]
 | a :: t=>if a.K=2 then a.V :: iO t else iO t
def ats:Nat→List bk→List Int
 | _,[]=>[]
 | i,a :: t=>if a.K=2 then (i:Int) :: ats (i+1) t else ats (i+1) t
def aI (p:ao):aj:=⟨p.Kind,(p.Args.length:Int),iO p.Args,ats 0 p.Args⟩
theorem vB:∀ (l:List bk),(iO l).length≤l.length
 | []=>by simp [iO]
 | a :: t=>by have:=vB t; unfold iO; split <;> simp <;> omega
theorem DY:∀ (l:List bk) (i:Nat),(ats i l).length≤l.length
 | [],_=>by simp [ats]
 | a :: t,i=>by have:=DY t (i+1); unfold ats; split <;> simp <;> omega
theorem GE {N:Nat} (hN:1099000000000≤N) (p:ao) (hl:p.Args.length≤1048576):mD N p=some (aI p):=by
 have lp:∀ (n i:Nat) (cs:List aP) (as:List Int),i≤p.Args.length→p.Args.length - i < n→cs.length≤i→as.length≤i →
   e8 N p n cs as i=some ⟨p.Kind,(p.Args.length:Int),cs++iO (p.Args.drop i),as++ats i (p.Args.drop i)⟩:=by
  intro n
  induction n with
  | zero=>intro i _ _ _ h; omega
  | succ n ih=>
   intro i cs as hi hn h1 h2
   by_cases hlt:i < p.Args.length
   ·have c1:decide ((i:Int) < (p.Args.length:Int))=true:=decide_eq_true (by omega)
    rw [List.drop_eq_getElem_cons hlt]
    simp only [e8,c1,if_true,ag hlt,Option.bind_some,wr1 i (by omega),iO,ats]
    by_cases hk:p.Args[i].K=2
    ·simp only [hk,decide_true,if_true,bQ (show cs.length+[p.Args[i].V].length≤4294967296 by simp; omega),bQ (show as.length+[(i:Int)].length≤4294967296 by simp; omega),Option.bind_some]
     rw [ih (i+1) _ _ (by omega) (by omega) (by simp; omega) (by simp; omega)]; simp
    ·simp only [hk,decide_false,Bool.false_eq_true,if_false]
     exact ih (i+1) _ _ (by omega) (by omega) (by omega) (by omega)
   ·have c1:decide ((i:Int) < (p.Args.length:Int))=false:=decide_eq_false (by omega)
    rw [List.drop_of_length_le (by omega)]
    simp only [e8,c1,Bool.false_eq_true,if_false,iO,ats,List.append_nil]
 have:=lp N 0 [] [] (by omega) (by omega) (by simp) (by simp)
 unfold mD aI
 simpa using this
theorem J9 (x y:aP):bb x y=decide (x=y):=jK x y
def jp (a:aj):Prop:=a.Consts.length≤1048576∧a.At.length≤1048576
theorem G9 {N:Nat} (hN:1099000000000≤N) (x y:List Int) (hl:x.length≤4294967296):dl N x y=some (decide (x=y)):=by
 unfold dl
 by_cases c:x.length=y.length
 ·rw [if_neg (by simp; omega)]
  refine (it (cz N x y) x y c (by omega) (fun a b=>some (decide (a=b))) (fun a _ b _=>rfl) (fun k i=>rfl) N 0 (by omega) (by omega)).trans ?_
  simp
 ·rw [if_pos (by simp; omega)]
  have : ¬ x=y:=fun e=>c (by rw [e])
  simp [this]
theorem IH {N:Nat} (hN:1099000000000≤N) (x y:List aP) (hl:x.length≤4294967296):bu N x y=some (decide (x=y)):=by
 unfold bu
 by_cases c:x.length=y.length
 ·rw [if_neg (by simp; omega)]
  refine (it (aS N x y) x y c (by omega) (fun a b=>some (decide (a=b))) (fun a _ b _=>rfl) (fun k i=>by simp only [aS,J9,Option.bind_some]) N 0 (by omega) (by omega)).trans ?_
  simp
 ·rw [if_pos (by simp; omega)]
  have : ¬ x=y:=fun e=>c (by rw [e])
  simp [this]
theorem Hg {N:Nat} (hN:1099000000000≤N) (x y:aj) (h:jp x):jj N x y=some (decide (x=y)):=by
 unfold jj
 simp only [G9 hN _ _ (show x.At.length≤4294967296 by have:=h.2; omega),IH hN _ _ (show x.Consts.length≤4294967296 by have:=h.1; omega),Option.bind_some,n9,dB]
 obtain ⟨a,b,c,d⟩:=x; obtain ⟨e,f,g,k⟩:=y
 simp only [aj.mk.injEq,← Bool.decide_and,and_assoc]
def iA (fs:List aP):List Int→List aP→Bool
 | [],_=>true
 | _ :: _,[]=>false
 | x :: t,c :: cs=>(decide (0≤x) && (decide (x < (fs.length:Int)) && decide (idx fs x=some c))) && iA fs t cs
def et (a:aj) (f:av):Bool:=(seq f.Kind a.Kind && decide ((f.Fields.length:Int)=a.N)) && iA f.Fields a.At a.Consts
theorem Ga {N:Nat} (hN:1099000000000≤N) (a:aj) (f:av) (h:a.At.length≤1048576):o7 N a f=some (et a f):=by
 have lp:∀ (n i:Nat),i≤a.At.length→a.At.length - i < n→fP N a f n i=some (iA f.Fields (a.At.drop i) (a.Consts.drop i)):=by
  intro n
  induction n with
  | zero=>intro i _ h; omega
  | succ n ih=>
   intro i hi hn
   simp only [fP]
   by_cases hlt:i < a.At.length
   ·have c1:decide ((i:Int) < (a.At.length:Int))=true:=decide_eq_true (by omega)
    rw [List.drop_eq_getElem_cons hlt]
    simp only [c1,if_true,ag hlt,Option.bind_some,wr1 i (by omega),ih (i+1) (by omega) (by omega)]
    by_cases hc:i < a.Consts.length
    ·have c2:decide ((a.Consts.length:Int)≤(i:Int))=false:=decide_eq_false (by omega)
     rw [List.drop_eq_getElem_cons hc,iA]
     by_cases h0:a.At[i] < 0
     ·simp [h0,c2,show ¬ 0≤a.At[i] by omega]
     ·by_cases h1:(f.Fields.length:Int)≤a.At[i]
      ·simp [h0,h1,show ¬ a.At[i] < (f.Fields.length:Int) by omega]
      ·obtain ⟨j,hj⟩:∃ j:Nat,a.At[i]=(j:Int):=⟨a.At[i].toNat,by omega⟩
       have hjl:j < f.Fields.length:=by omega
       rw [hj]
       rw [hj] at h0 h1
       simp only [h0,h1,c2,decide_false,Bool.false_eq_true,if_false,Option.bind_some,ag hjl,ag hc,jK,Option.some.injEq]
       by_cases he:f.Fields[j]=a.Consts[i] <;> simp [he,hjl]
    ·have c2:decide ((a.Consts.length:Int)≤(i:Int))=true:=decide_eq_true (by omega)
     rw [List.drop_of_length_le (show a.Consts.length≤i by omega),iA]
     by_cases h0:a.At[i] < 0
     ·simp [h0,c2]
     ·by_cases h1:(f.Fields.length:Int)≤a.At[i] <;> simp [h0,h1,show a.Consts.length≤i by omega]
   ·have c1:decide ((i:Int) < (a.At.length:Int))=false:=decide_eq_false (by omega)
    rw [List.drop_of_length_le (show a.At.length≤i by omega)]
    simp only [c1,Bool.false_eq_true,if_false,iA]
 have l0:=lp N 0 (by omega) (by omega)
 rw [List.drop_zero,List.drop_zero,show ((0:Nat):Int)=0 from rfl] at l0
 unfold o7 et
 rw [l0]
 cases seq f.Kind a.Kind <;> by_cases hl:(f.Fields.length:Int)=a.N <;> simp [hl]
theorem uj (f:Nat→Int→Option Bool) (n0:Nat) (hm:n0≤4611686018427387903) (e:Nat→Bool) (z:Bool)
  (h:∀ k (i:Nat),i < n0→f (k+1) i=if e i then f k (IntKind.i64.wrap ((i:Int)+1)) else some false) (hz:∀ k (i:Nat),i=n0→f (k+1) i=some z) :
  ∀ (n i:Nat),i≤n0→n0 - i < n→f n i=some (((List.range n0).drop i).all e && z):=by
 intro n
 induction n with
 | zero=>intro i _ h; omega
 | succ n ih=>
  intro i hi hn
  by_cases hlt:i < n0
  ·rw [h n i hlt,List.drop_eq_getElem_cons (by simpa using hlt),List.getElem_range,List.all_cons]
   cases he:e i with
   | false=>simp
   | true=>simp only [if_true,Bool.true_and]; rw [wr1 i (by omega),ih (i+1) (by omega) (by omega)]
  ·have:i=n0:=by omega
   rw [hz n i this,List.drop_of_length_le (by simp; omega)]
   simp
theorem in0 (N:Nat) (a b c:Int):cT N a b c=some (decide (b≤a) && decide (a≤c)):=by
 unfold cT
 by_cases h:b≤a <;> simp [h]
theorem in1 (N:Nat) (a b c:Int):cj N a b c=some (decide (b≤a) && decide (a≤c)):=by
 unfold cj
 by_cases h:b≤a <;> simp [h]
theorem wrU (y:UInt8):IntKind.i64.wrap (y.toNat:Int)=(y.toNat:Int):=wr (by omega) (by have:=y.toNat_lt; omega)
def iF (y:UInt8):Bool:=(decide (97≤(y.toNat:Int)) && decide ((y.toNat:Int)≤122)) || (decide (48≤(y.toNat:Int)) && decide ((y.toNat:Int)≤57)) || decide ((y.toNat:Int)=95)
theorem wt (N:Nat) (y:UInt8):gC N (y.toNat:Int)=some (iF y):=by
 unfold gC iF
 simp only [wrU,in0,Option.bind_some]
 by_cases h1:(decide (97≤(y.toNat:Int)) && decide ((y.toNat:Int)≤122))=true
 ·simp [h1]
 ·rw [if_neg h1]
  simp only [Option.bind_some]
  rw [Bool.eq_false_iff.2 h1,Bool.false_or]
  by_cases h2:(decide (48≤(y.toNat:Int)) && decide ((y.toNat:Int)≤57))=true
  ·simp [h2]
  ·rw [if_neg h2,Bool.eq_false_iff.2 h2,Bool.false_or]; rfl
theorem CG (N:Nat) (y:UInt8):fY N (y.toNat:Int)=some (iF y):=by
 unfold fY iM pt iF
 generalize (y.toNat:Int)=n
 rw [n9,n9,Option.bind_some,Option.bind_some,Option.bind_some,Option.bind_some,orS,Option.bind_some,orS]
 rfl
def sF (y:UInt8):Bool:=decide (97≤(y.toNat:Int)) && decide ((y.toNat:Int)≤122)
def nh (s:ByteArray):Bool:=((List.range s.size).drop 0).all (fun i=>match s.data.toList[i]? with | some y=>iF y | none=>false)
theorem l5 (s:ByteArray):s.data.toList.length=s.size:=rfl
theorem GO {N:Nat} (hN:1048578≤N) (s:ByteArray) (hs:s.size≤1048576):m7 N s=some (nh s && decide ((s.size:Int)≤20)):=by
 unfold m7
 refine uj (fun n i=>dZ N s n i) s.size (by omega) _ _ (fun k i hi=>?_) (fun k i hi=>?_) N 0 (by omega) (by omega)
 ·have hi':i < s.data.toList.length:=by rw [l5]; exact hi
  simp only [dZ,ag hi',Option.bind_some,wt,List.getElem?_eq_getElem hi']
  rw [if_pos (by simp; omega)]
  cases iF s.data.toList[i] <;> simp
 ·simp only [dZ]
  rw [if_neg (by simp; omega)]
theorem Dn {N:Nat} (hN:1048578≤N) (s:ByteArray) (n:Int) (hs:s.size≤1048576):kR N s n=some (nh s && decide ((s.size:Int)≤n)):=by
 unfold kR
 have:dU N s N 0=some (nh s && true):=by
  refine uj (fun n i=>dU N s n i) s.size (by omega) _ _ (fun k i hi=>?_) (fun k i hi=>?_) N 0 (by omega) (by omega)
  ·have hi':i < s.data.toList.length:=by rw [l5]; exact hi
   simp only [dU,ag hi',Option.bind_some,CG,List.getElem?_eq_getElem hi']
   rw [if_pos (by simp; omega)]
   cases iF s.data.toList[i] <;> simp
  ·simp only [dU]
   rw [if_neg (by simp; omega)]
 rw [this]
 by_cases h:n < (s.size:Int)
 ·rw [if_pos (by simpa using h),decide_eq_false (by omega),Bool.and_false]
 ·rw [if_neg (by simpa using h),decide_eq_true (show (s.size:Int)≤n by omega)]
theorem JW {N:Nat} (hN:1048578≤N) (s:ByteArray) (hs:s.size≤1048576):eZ N s=some ((match s.data.toList[0]? with | some y=>sF y | none=>false) && (nh s && decide ((s.size:Int)≤12))):=by
 unfold eZ
 rw [Dn hN s 12 hs]
 by_cases h:0 < s.size
 ·have hi':0 < s.data.toList.length:=by rw [l5]; exact h
  have hidx:idx s.data.toList 0=some s.data.toList[0]:=by simpa using ag (i:=0) hi'
  rw [if_pos (by simpa using h),hidx,List.getElem?_eq_getElem hi']
  have:iM N (s.data.toList[0].toNat:Int)=some (sF s.data.toList[0]):=by
   unfold iM sF
   generalize (s.data.toList[0].toNat:Int)=n
   by_cases h1:97≤n <;> simp [h1]
  simp only [Option.bind_some,this]
  cases sF s.data.toList[0] <;> simp
 ·rw [if_neg (by simpa using h),List.getElem?_eq_none (by rw [l5]; omega)]
  rfl
theorem II {N:Nat} (hN:1048578≤N) (s:ByteArray) (hs:s.size≤1048576):dD N s=some ((match s.data.toList[0]? with | some y=>sF y | none=>false) && (nh s && decide ((s.size:Int)≤12))):=by
 unfold dD
 have:=uj (fun n i=>dJ N s n i) s.size (by omega) (fun i=>match s.data.toList[i]? with | some y=>iF y && (decide (¬ i=0) || sF y) | none=>false) (decide (1≤(s.size:Int)) && decide ((s.size:Int)≤12)) (fun k i hi=>by
  have hi':i < s.data.toList.length:=by rw [l5]; exact hi
  simp only [dJ,ag hi',Option.bind_some,wt,List.getElem?_eq_getElem hi',wrU,in0]
  rw [if_pos (by simp; omega)]
  have h0:decide ((i:Int)=0)=decide (i=0):=by rw [decide_eq_decide]; omega
  rw [h0]
  unfold sF
  simp only [n9,orS,Option.bind_some]
  generalize iF s.data.toList[i]=a
  generalize (decide (97≤(s.data.toList[i].toNat:Int)) && decide ((s.data.toList[i].toNat:Int)≤122))=b
  cases a <;> cases b <;> by_cases hz:i=0 <;> simp [hz]) (fun k i hi=>by
  simp only [dJ,in0,Option.bind_some]
  rw [if_neg (by simp; omega)]) N 0 (by omega) (by omega)
 rw [show dJ N s N 0=_ from this]
 congr 1
 unfold nh
 simp only [List.drop_zero]
 cases hsz:s.size with
 | zero=>
  rw [List.getElem?_eq_none (by rw [l5]; omega)]
  simp
 | succ n=>
  have hi':0 < s.data.toList.length:=by rw [l5]; omega
  rw [List.getElem?_eq_getElem hi',List.range_succ_eq_map]
  simp only [List.all_cons,List.getElem?_eq_getElem hi',List.all_map,Function.comp_def,Nat.succ_eq_add_one]
  have:∀ i,(match s.data.toList[i+1]? with | some y=>iF y && (decide (¬ i+1=0) || sF y) | none=>false)=(match s.data.toList[i+1]? with | some y=>iF y | none=>false):=by
   intro i; cases s.data.toList[i+1]? <;> simp
  simp only [this]
  have h1:decide (1≤((n+1:Nat):Int))=true:=by simp; omega
  simp only [h1,Bool.true_and,not_true,decide_false,Bool.false_or]
  cases iF s.data.toList[0] <;> cases sF s.data.toList[0] <;> simp
theorem HI {N:Nat} (hN:1048578≤N) (v:aP) (hs:v.S.size≤1048576):nt N v=jL N v:=by
 unfold nt jL
 rw [GO hN _ hs,Dn hN _ _ hs,in0,in1]
 by_cases h1:v.K=1
 ·simp [h1]
 ·by_cases h2:v.K=2
  ·simp only [h2,n9,orS,Option.bind_some]
   cases decide (v.N=0) <;> cases nh v.S <;> cases decide ((v.S.size:Int)≤20) <;> rfl
  ·simp [h1,h2]
def sO (v:aP):Bool:=if v.K=1 then (decide (-1000000000≤v.N) && decide (v.N≤1000000000)) && seq v.S ⟨#[]⟩ else if v.K=2 then decide (v.N=0) && (nh v.S && decide ((v.S.size:Int)≤20)) else false
theorem DO {N:Nat} (hN:1048578≤N) (v:aP) (hs:v.S.size≤1048576):jL N v=some (sO v):=by
 unfold jL sO
 rw [Dn hN _ _ hs,in1]
 by_cases h1:v.K=1
 ·simp only [h1,decide_true,if_true,Option.bind_some]
  cases (decide (-1000000000≤v.N) && decide (v.N≤1000000000)) <;> simp
 ·by_cases h2:v.K=2
  ·by_cases h3:v.N=0 <;> simp [h2,h3]
  ·simp [h1,h2]
def rf (y:UInt8):Bool:=decide (65≤(y.toNat:Int)) && decide ((y.toNat:Int)≤90)
theorem E2 (N:Nat) (y:UInt8):jJ N (y.toNat:Int)=some (rf y):=by
 unfold jJ rf; cases decide (65≤(y.toNat:Int)) <;> rfl
theorem Eg (N:Nat) (y:UInt8):mo N (y.toNat:Int)=some (rf y):=by
 unfold mo rf; rw [wrU,in0]; rfl
def BW (s:ByteArray):Bool:=match s.data.toList with
 | []=>false
 | b :: t=>rf b && (t.all (fun y=>iF y || rf y) && decide ((s.size:Int)≤12))
theorem KI {N:Nat} (hN:1099000000000≤N) (s:ByteArray) (hs:s.size≤1048576):pZ N s=some (BW s):=by
 have hsz:s.size=s.data.toList.length:=rfl
 have lp:=vk (fA N s) s.data.toList (by omega) (fun y=>iF y || rf y) true 0 (fun n i y _ hx _ hc hw=>by
  rw [← hsz] at hc
  simp only [fA,hc,if_true,hx,Option.bind_some,CG,E2,hw]
  cases iF y <;> cases rf y <;> rfl) (fun n i hc=>by rw [← hsz] at hc; simp only [fA,hc,Bool.false_eq_true,if_false])
 unfold pZ BW
 cases hd:s.data.toList with
 | nil=>
  have:s.size=0:=by rw [hsz,hd]; rfl
  rw [this]; rfl
 | cons b t=>
  have h1:s.size=t.length+1:=by rw [hsz,hd]; rfl
  have c1:decide ((s.size:Int) < 1)=false:=decide_eq_false (by omega)
  have:=lp N 0 (by omega) (by omega) (by omega)
  rw [hd] at this
  have hi:idx (b :: t) 0=some b:=rfl
  simp only [c1,Bool.false_eq_true,if_false,Option.bind_some,hi,E2]
  by_cases c2:(s.size:Int)≤12
  ·have c3:decide (12 < (s.size:Int))=false:=decide_eq_false (by omega)
   simp only [c2,c3,decide_true,Bool.and_true,Bool.false_eq_true,if_false,Option.bind_some]
   cases hb:rf b with
   | false=>rfl
   | true=>
    simp only [Bool.not_true,Bool.false_eq_true,if_false,Bool.true_and]
    refine this.trans ?_
    simp [hb]
  ·have c3:decide (12 < (s.size:Int))=true:=decide_eq_true (by omega)
   simp only [c2,c3,decide_false,Bool.and_false,if_true,Option.bind_some]
theorem KX {N:Nat} (hN:1099000000000≤N) (s:ByteArray) (hs:s.size≤1048576):mE N s=some (BW s):=by
 have hsz:s.size=s.data.toList.length:=rfl
 have lp:=vk (cK N s) s.data.toList (by omega) (fun y=>iF y || rf y) (decide (1≤(s.size:Int)) && decide ((s.size:Int)≤12)) 1 (fun n i y h1 hx _ hc hw=>by
  rw [← hsz] at hc
  have h0:decide ((i:Int)=0)=false:=decide_eq_false (by omega)
  simp only [cK,hc,if_true,hx,Option.bind_some,wt,Eg,hw,h0,Bool.false_eq_true,if_false]
  cases iF y <;> cases rf y <;> rfl) (fun n i hc=>by rw [← hsz] at hc; simp only [cK,hc,Bool.false_eq_true,if_false,in0,Option.bind_some])
 unfold mE BW
 obtain ⟨n,rfl⟩:∃ n,N=n+1:=⟨N - 1,by omega⟩
 cases hd:s.data.toList with
 | nil=>
  have:s.size=0:=by rw [hsz,hd]; rfl
  simp only [cK,this,in0]; rfl
 | cons b t=>
  have h1:s.size=t.length+1:=by rw [hsz,hd]; rfl
  have c1:decide ((0:Int) < (s.size:Int))=true:=decide_eq_true (by omega)
  have:=lp n 1 (by omega) (by omega) (by omega)
  rw [hd] at this
  have hi:idx (b :: t) 0=some b:=rfl
  simp only [cK,c1,if_true,hd,hi,Option.bind_some,Eg,decide_true]
  cases hb:rf b with
  | false=>rfl
  | true=>
   simp only [Bool.not_true,Bool.false_eq_true,if_false,Option.bind_some,Bool.true_and]
   rw [show IntKind.i64.wrap ((0:Int)+1)=((1:Nat):Int) from wr1 0 (by omega)]
   refine this.trans ?_
   simp [show (1:Int)≤(s.size:Int) by omega]
def sC (a:bk):Prop:=a.S.size≤1048576∧a.V.S.size≤1048576
def pY (a:bk):Bool:=if a.K=1 then BW a.S && bb a.V ⟨0,0,⟨#[]⟩⟩ else if a.K=2 then sO a.V && seq a.S ⟨#[]⟩ else if a.K=3 then seq a.S ⟨#[]⟩ && bb a.V ⟨0,0,⟨#[]⟩⟩ else false
theorem DI {N:Nat} (hN:1099000000000≤N) (a:bk) (h:sC a):jR N a=some (pY a):=by
 unfold jR pY
 rw [KX hN _ h.1,HI (by omega) _ h.2,DO (by omega) _ h.2]
 simp only [Option.bind_some,n9,decide_eq_true_eq]
 split <;> (try split) <;> (try split) <;> rfl
theorem HR {N:Nat} (hN:1099000000000≤N) (a:bk) (h:sC a):nu N a=some (pY a):=by
 unfold nu pY
 rw [KI hN _ h.1,DO (by omega) _ h.2]
 simp only [Option.bind_some,n9,decide_eq_true_eq,Bool.and_comm]
 split <;> (try split) <;> (try split) <;> simp [Bool.and_comm]
def sG (a:bk):Bool:=pY a && !decide (a.K=3)
theorem DV {N:Nat} (hN:1099000000000≤N) (a:bk) (h:sC a):iQ N a=some (sG a):=by
 unfold iQ sG; simp only [DI hN a h,Option.bind_some,n9]
theorem vl {N:Nat} (hN:1099000000000≤N) (a:bk) (h:sC a):gK N a=some (sG a):=by
 unfold gK sG; simp only [HR hN a h,Option.bind_some,n9,Bool.and_comm]
def xb (e:br):Prop:=e.Op.size≤1048576∧sC e.L∧sC e.R
def kh (e:br):Bool:=if seq e.Op ⟨#[]⟩ then sG e.L && oc e.R ⟨0,⟨#[]⟩,⟨0,0,⟨#[]⟩⟩⟩ else (seq e.Op ⟨#[43]⟩ || seq e.Op ⟨#[45]⟩) && (sG e.L && sG e.R)
theorem JG {N:Nat} (hN:1099000000000≤N) (e:br) (h:xb e):nY N e=some (kh e):=by
 unfold nY gS kh
 simp only [DV hN _ h.2.1,DV hN _ h.2.2,Option.bind_some,n9]
 cases seq e.Op ⟨#[]⟩ <;> cases seq e.Op ⟨#[43]⟩ <;> cases seq e.Op ⟨#[45]⟩ <;> rfl
theorem IR {N:Nat} (hN:1099000000000≤N) (e:br) (h:xb e):oB N e=some (kh e):=by
 unfold oB iq kh
 simp only [vl hN _ h.2.1,vl hN _ h.2.2,Option.bind_some,n9]
 cases seq e.Op ⟨#[]⟩ <;> cases seq e.Op ⟨#[43]⟩ <;> cases seq e.Op ⟨#[45]⟩ <;> rfl
def fm (s:ByteArray):Bool:=(match s.data.toList[0]? with | some y=>sF y | none=>false) && (nh s && decide ((s.size:Int)≤12))
theorem ql {N:Nat} (hN:1099000000000≤N) (s:ByteArray) (hs:s.size≤1048576):dD N s=some (fm s):=II (by omega) s hs
theorem qf {N:Nat} (hN:1099000000000≤N) (s:ByteArray) (hs:s.size≤1048576):eZ N s=some (fm s):=JW (by omega) s hs
def zU (a:bX):Prop:=a.Name.size≤1048576∧a.Undo.size≤1048576∧a.Args.length≤1048576∧∀ e∈a.Args,xb e
theorem JM {N:Nat} (hN:1099000000000≤N) (xs:List br) (hl:xs.length≤1048576) (h:∀ e∈xs,xb e):ju N xs=some (xs.all kh && decide ((xs.length:Int)≤5)):=by
 unfold ju
 have:=vk (eQ N xs) xs (by omega) kh (decide ((xs.length:Int)≤5)) 0 (fun n i y _ hx hm hc hw=>by
  simp only [eQ,hc,if_true,hx,Option.bind_some,JG hN y (h y hm),hw]; cases kh y <;> rfl) (fun n i hc=>by simp only [eQ,hc,Bool.false_eq_true,if_false]) N 0 (by omega) (by omega) (by omega)
 simpa using this
theorem Il {N:Nat} (hN:1099000000000≤N) (a:bX) (h:zU a):jw N a=some (fm a.Name && (a.Args.all kh && decide ((a.Args.length:Int)≤5))):=by
 obtain ⟨h1,h2,h3,h4⟩:=h
 unfold jw
 have:=vk (dR N a) a.Args (by omega) kh true 0 (fun n i y _ hx hm hc hw=>by
  simp only [dR,hc,if_true,hx,Option.bind_some,IR hN y (h4 y hm),hw]; cases kh y <;> rfl) (fun n i hc=>by simp only [dR,hc,Bool.false_eq_true,if_false]) N 0 (by omega) (by omega) (by omega)
 have this':dR N a N 0=some (a.Args.all kh):=by simpa using this
 simp only [qf hN _ h1,Option.bind_some,this']
 cases fm a.Name with
 | false=>rfl
 | true=>
  by_cases c:(a.Args.length:Int)≤5
  ·have c':decide (5 < (a.Args.length:Int))=false:=decide_eq_false (by omega)
   simp only [c,c',decide_true,Bool.and_true,Bool.true_and,Bool.not_true,Bool.false_eq_true,if_false,Option.bind_some]
  ·have c':decide (5 < (a.Args.length:Int))=true:=decide_eq_true (by omega)
   simp only [c,c',decide_false,Bool.and_false,Bool.not_true,Bool.false_eq_true,if_false,if_true,Option.bind_some]
def rm (a:bX):Bool:=
 let na:=fm a.Name && (a.Args.all kh && decide ((a.Args.length:Int)≤5))
 let bare:=seq a.Name ⟨#[]⟩ && decide ((a.Args.length:Int)=0)
 if a.Kind=1 then na && decide (a.N=0) && seq a.Undo ⟨#[]⟩
 else if a.Kind=2 then bare && (decide (0≤a.N) && decide (a.N≤7)) && seq a.Undo ⟨#[]⟩
 else if a.Kind=3 then na && decide (a.N=0) && (seq a.Undo ⟨#[]⟩ || fm a.Undo)
 else if a.Kind=4 then na && (decide (0≤a.N) && decide (a.N≤100000)) && seq a.Undo ⟨#[]⟩
 else if a.Kind=5∨a.Kind=6 then bare && decide (a.N=0) && seq a.Undo ⟨#[]⟩
 else false
theorem KS {N:Nat} (hN:1099000000000≤N) (a:bX) (h:zU a):qo N a=some (rm a):=by
 obtain ⟨h1,h2,h3,h4⟩:=h
 unfold qo iW rm
 simp only [JM hN _ h3 h4,ql hN _ h1,ql hN _ h2,in0,Option.bind_some,n9,orS,decide_eq_true_eq]
 generalize fm a.Name=n; generalize a.Args.all kh=e; generalize fm a.Undo=u; generalize seq a.Name ⟨#[]⟩=sn; generalize seq a.Undo ⟨#[]⟩=su
 by_cases k1:a.Kind=1
 ·simp [k1] <;> (cases n <;> cases e <;> simp)
 by_cases k3:a.Kind=3
 ·simp [k3] <;> (cases n <;> cases e <;> simp)
 by_cases k4:a.Kind=4
 ·simp [k4] <;> (cases n <;> cases e <;> simp)
 by_cases k2:a.Kind=2
 ·simp [k2] <;> (cases sn <;> cases su <;> simp)
 by_cases k5:a.Kind=5
 ·simp [k5] <;> (cases sn <;> cases su <;> simp)
 ·by_cases k6:a.Kind=6
  ·simp [k6] <;> (cases sn <;> cases su <;> simp)
  ·simp [k1,k2,k3,k4,k5,k6]
theorem Ky {N:Nat} (hN:1099000000000≤N) (a:bX) (h:zU a):qy N a=some (rm a):=by
 have hi:=Il hN a h
 obtain ⟨h1,h2,h3,h4⟩:=h
 unfold qy iT ra rm
 simp only [hi,qf hN _ h2,in1,Option.bind_some,n9,orS,decide_eq_true_eq]
 generalize fm a.Name=n; generalize a.Args.all kh=e; generalize fm a.Undo=u; generalize seq a.Name ⟨#[]⟩=sn; generalize seq a.Undo ⟨#[]⟩=su
 by_cases k1:a.Kind=1
 ·simp [k1] <;> (cases n <;> cases e <;> simp)
 by_cases k3:a.Kind=3
 ·simp [k3] <;> (cases n <;> cases e <;> simp)
 by_cases k4:a.Kind=4
 ·simp [k4] <;> (cases n <;> cases e <;> simp)
 by_cases k2:a.Kind=2
 ·simp [k2] <;> (cases sn <;> cases su <;> simp)
 by_cases k5:a.Kind=5
 ·simp [k5] <;> (cases sn <;> cases su <;> simp)
 ·by_cases k6:a.Kind=6
  ·simp [k6] <;> (cases sn <;> cases su <;> simp)
  ·simp [k1,k2,k3,k4,k5,k6]
def zY (p:ao):Prop:=p.Kind.size≤1048576∧p.Args.length≤1048576∧∀ a∈p.Args,sC a
def mX (p:ao):Bool:=fm p.Kind && (decide ((p.Args.length:Int)≤5) && p.Args.all pY)
theorem Li {N:Nat} (hN:1099000000000≤N) (p:ao) (h:zY p):qi N p=some (mX p):=by
 obtain ⟨h1,h2,h3⟩:=h
 have lp:=lp0 hN p.Args (by omega) (fC N p) (fun t=>some (t.all pY)) (fun n i x t g1 g2 g3 g4 g5 g6 g7=>by
  simp only [fC,g5,if_true,g4,Option.bind_some,HR hN x (h3 x g2),g6,g7,List.all_cons]; cases pY x <;> rfl) (fun n i g1 g2=>by simp only [fC,g2,Bool.false_eq_true,if_false]; rfl)
 unfold qi mX
 simp only [qf hN _ h1,Option.bind_some,lp]
 by_cases c:(p.Args.length:Int)≤5
 ·have c':decide (5 < (p.Args.length:Int))=false:=decide_eq_false (by omega)
  simp only [c,c',decide_true]; cases fm p.Kind <;> simp
 ·have c':decide (5 < (p.Args.length:Int))=true:=decide_eq_true (by omega)
  simp only [c,c',decide_false]; cases fm p.Kind <;> simp
theorem Kt {N:Nat} (hN:1099000000000≤N) (p:ao) (h:zY p):qk N p=some (mX p):=by
 obtain ⟨h1,h2,h3⟩:=h
 have lp:=lp0 hN p.Args (by omega) (fx N p) (fun t=>some (t.all pY && (fm p.Kind && decide ((p.Args.length:Int)≤5)))) (fun n i x t g1 g2 g3 g4 g5 g6 g7=>by
  simp only [fx,g5,if_true,g4,Option.bind_some,DI hN x (h3 x g2),g6,g7,List.all_cons]; cases pY x <;> simp) (fun n i g1 g2=>by
  simp only [fx,g2,Bool.false_eq_true,if_false,ql hN _ h1,Option.bind_some,n9,List.all_nil,Bool.true_and])
 unfold qk mX
 rw [lp]
 generalize fm p.Kind=a; generalize p.Args.all pY=b; generalize decide ((p.Args.length:Int)≤5)=c
 cases a <;> cases b <;> cases c <;> rfl
def w7 (c:bz):Prop:=sC c.L∧sC c.R
def pK (c:bz):Bool:=(decide (1≤c.Op) && decide (c.Op≤3)) && (sG c.L && sG c.R)
theorem J3 {N:Nat} (hN:1099000000000≤N) (c:bz) (h:w7 c):nW N c=some (pK c):=by
 unfold nW pK
 simp only [in1,vl hN _ h.1,vl hN _ h.2,Option.bind_some,n9,Bool.and_assoc]
theorem Iu {N:Nat} (hN:1099000000000≤N) (c:bz) (h:w7 c):o9 N c=some (pK c):=by
 unfold o9 pK sG
 simp only [in0,DI hN _ h.1,DI hN _ h.2,Option.bind_some,n9]
 generalize pY c.L=a; generalize pY c.R=b; generalize (decide (c.L.K=3))=d; generalize (decide (c.R.K=3))=e; generalize (decide (1≤c.Op) && decide (c.Op≤3))=f
 cases a <;> cases b <;> cases d <;> cases e <;> cases f <;> rfl
instance LT (v:ByteArray) (xs:List ByteArray):Decidable (v∈xs):=@List.instDecidableMemOfLawfulBEq _ instBEqOfDecidableEq _ v xs
theorem Iq0 {N:Nat} (hN:1099000000000≤N) (xs:List ByteArray) (v:ByteArray) (hl:xs.length≤4294967296):l6 N xs v=some (decide (v∈xs)):=by
 unfold l6
 refine lp0 hN xs hl _ (fun t=>some (decide (v∈t))) (fun n i x t h1 h2 h3 h4 h5 h6 h7=>?_) (fun n i h1 h2=>?_)
 ·simp only [gG,h5,if_true,h4,Option.bind_some,h6,h7,dB]
  by_cases h:x=v
  ·simp [h]
  ·have h' : ¬ v=x:=fun e=>h e.symm
   simp [h,h']
 ·simp only [gG,h2,Bool.false_eq_true,if_false]; simp
def cG (s:List ByteArray) (v:ByteArray):List ByteArray:=if v∈s then s else s++[v]
theorem tF (s:List ByteArray) (v:ByteArray):(cG s v).length≤s.length+1:=by unfold cG; split <;> simp
theorem Ge {s:List ByteArray} {v x:ByteArray}:x∈cG s v↔x∈s∨x=v:=by
 unfold cG; split
 ·rename_i h
  constructor
  ·exact .inl
  ·rintro (h' | rfl)
   ·exact h'
   ·exact h
 ·simp
theorem um {x:ByteArray}:∀ {vs s:List ByteArray},x∈vs.foldl cG s↔x∈s∨x∈vs
 | [],s=>by simp
 | v :: vs,s=>by rw [List.foldl_cons,um,Ge,List.mem_cons,or_assoc]
theorem C6 {s:List ByteArray} {v:ByteArray} (h:v∈s):cG s v=s:=by unfold cG; rw [if_pos h]
theorem lg:∀ (vs s:List ByteArray),(vs.foldl cG s).length≤s.length+vs.length
 | [],s=>by simp
 | v :: vs,s=>by have:=lg vs (cG s v); have:=tF s v; simp only [List.foldl_cons,List.length_cons]; omega
theorem CV (s u:List ByteArray) (v:ByteArray):(cG u v).foldl cG s=cG (u.foldl cG s) v:=by
 by_cases h:v∈u
 ·rw [C6 h,C6 (um.2 (.inr h))]
 ·have:cG u v=u++[v]:=by unfold cG; rw [if_neg h]
  rw [this,List.foldl_append]; rfl
theorem uH:∀ (vs u s:List ByteArray),(vs.foldl cG u).foldl cG s=vs.foldl cG (u.foldl cG s)
 | [],u,s=>rfl
 | v :: vs,u,s=>by rw [List.foldl_cons,uH vs (cG u v) s,CV,List.foldl_cons]
theorem Cx (vs s:List ByteArray):(vs.foldl cG []).foldl cG s=vs.foldl cG s:=uH vs [] s
def ce:List bk→List ByteArray
 | []=>[]
 | a :: t=>if a.K=1 then a.S :: ce t else ce t
theorem gz:∀ (l:List bk),(ce l).length≤l.length
 | []=>by simp [ce]
 | a :: t=>by have:=gz t; unfold ce; split <;> simp <;> omega
theorem rR {x:ByteArray}:∀ {l:List bk},x∈ce l↔∃ a∈l,a.K=1∧a.S=x
 | []=>by simp [ce]
 | a :: t=>by
  unfold ce
  split
  ·rename_i h; simp [rR,h,eq_comm]
  ·rename_i h; simp [rR,h]
theorem IX {N:Nat} (hN:1099000000000≤N) (p:ao) (hl:p.Args.length≤1048576):o0 N p=some ((ce p.Args).foldl cG []):=by
 unfold o0
 refine lp' hN p.Args (by omega) (eR N p) (fun t s=>some ((ce t).foldl cG s)) (fun s t=>s.length+t.length≤4294967290) [] (by simp; omega) (fun n s i x t h1 h2 h3 h4 h5 h6 hI ih=>?_) (fun n s i h1 h2 hI=>?_)
 ·simp only [List.length_cons] at hI
  simp only [eR,h5,if_true,h4,Option.bind_some,h6,ce,Iq0 hN s x.S (by omega)]
  by_cases h:x.K=1
  ·simp only [h,decide_true,if_true,Option.bind_some,List.foldl_cons]
   have:=ih (cG s x.S) (by have:=tF s x.S; omega)
   unfold cG at this ⊢
   by_cases hm:x.S∈s
   ·simp only [hm,if_true] at this
    simpa [hm] using this
   ·simp only [hm,if_false] at this
    simp only [hm,decide_false,Bool.not_false,if_true,bQ (show s.length+[x.S].length≤4294967296 by simp; omega),Option.bind_some,if_false]
    exact this
  ·simp only [h,decide_false,Bool.false_eq_true,if_false,Option.bind_some]
   exact ih _ (by omega)
 ·simp only [eR,h2,Bool.false_eq_true,if_false]; rfl
def eA:List ao→List ByteArray
 | []=>[]
 | p :: t=>if p.Not then eA t else ce p.Args++eA t
def iY (l:List ao):Nat:=(l.map fun p=>p.Args.length).sum
theorem th:∀ (l:List ao),(eA l).length≤iY l
 | []=>by simp [eA,iY]
 | p :: t=>by
  have h1:=th t
  have h2:=gz p.Args
  have h3:iY (p :: t)=p.Args.length+iY t:=by simp [iY]
  rw [h3]
  unfold eA
  split
  ·omega
  ·rw [List.length_append]; omega
theorem EV {N:Nat} (hN:1099000000000≤N) (r:ac) (hl:r.Pats.length≤1048576) (ha:iY r.Pats≤1048576) (hp:∀ p∈r.Pats,p.Args.length≤1048576):jF N r=some ((eA r.Pats).foldl cG []):=by
 unfold jF
 refine lp' hN r.Pats (by omega) (cl N r) (fun t s=>some ((eA t).foldl cG s)) (fun s t=>s.length+iY t≤4294967290) [] (by simp; omega) (fun n s i x t h1 h2 h3 h4 h5 h6 hI ih=>?_) (fun n s i h1 h2 hI=>?_)
 ·have hI':s.length+(x.Args.length+iY t)≤4294967290:=by simpa [iY] using hI
  have hpx:=hp x h2
  simp only [cl,h5,if_true,h4,Option.bind_some,IX hN x hpx,eA]
  have hvl:=lg (ce x.Args) []
  have hal:=gz x.Args
  simp only [List.length_nil,Nat.zero_add] at hvl
  have key:cp N r i (cl N r n) ((ce x.Args).foldl cG []) N s 0=if x.Not then some ((eA t).foldl cG s) else some ((eA t).foldl cG (((ce x.Args).foldl cG []).foldl cG s)):=by
   cases hx:x.Not with
   | true=>
    obtain ⟨m,rfl⟩:∃ m,N=m+1:=⟨N - 1,by omega⟩
    have ih0:=ih s (by omega)
    simp only [cp,h4,Option.bind_some,hx,Bool.not_true,h6,ih0]
    split <;> rfl
   | false=>
    refine lp' hN ((ce x.Args).foldl cG []) (by omega) (cp N r i (cl N r n) ((ce x.Args).foldl cG [])) (fun u s=>some ((eA t).foldl cG (u.foldl cG s))) (fun s u=>s.length+u.length+iY t≤4294967290) s (by omega) (fun n' s' i' y u g1 g2 g3 g4 g5 g6 gI gih=>?_) (fun n' s' i' g1 g2 gI=>?_)
    ·simp only [List.length_cons] at gI
     simp only [cp,g5,if_true,h4,Option.bind_some,hx,Bool.not_false,g4,Iq0 hN s' y (by omega),List.foldl_cons,g6]
     have:=gih (cG s' y) (by have:=tF s' y; omega)
     unfold cG at this ⊢
     by_cases hm:y∈s'
     ·simp only [hm,if_true] at this
      simpa [hm] using this
     ·simp only [hm,if_false] at this
      simp only [hm,decide_false,Bool.not_false,if_true,bQ (show s'.length+[y].length≤4294967296 by simp; omega),Option.bind_some,if_false]
      exact this
    ·simp only [cp,g2,Bool.false_eq_true,if_false,Option.bind_some,h6]
     exact ih s' (by simp at gI; omega)
  rw [show (cp N r i (cl N r n) ((ce x.Args).foldl cG []) N s 0)=_ from key]
  cases hx:x.Not with
  | true=>simp
  | false=>simp [List.foldl_append,Cx]
 ·simp only [cl,h2,Bool.false_eq_true,if_false]; rfl
def gi (r:ac):List ByteArray:=(eA r.Pats).foldl cG []
theorem A0 {r:ac} (h:iY r.Pats≤1048576):(gi r).length≤1048576:=by
 have h1:=lg (eA r.Pats) []
 have h2:=th r.Pats
 unfold gi; simp at h1; omega
theorem Kl {N:Nat} (hN:1099000000000≤N) (xs:List ByteArray) (v:ByteArray) (hl:xs.length≤4294967296):∃ r,cB N xs v=some r∧decide (0≤r)=decide (v∈xs):=by
 unfold cB
 have:=vI (aU N xs v) xs hl (fun x=>seq v x) (fun n i x hx _ hc hw=>by simp only [aU,hc,if_true,hx,Option.bind_some,hw]) (fun n i hc=>by simp only [aU,hc,Bool.false_eq_true,if_false]) N 0 (by omega) (by omega)
 rw [List.drop_zero,show ((0:Nat):Int)=0 from rfl] at this
 refine ⟨_,this,?_⟩
 rw [Gg,Bool.eq_iff_iff,List.any_eq_true,decide_eq_true_eq]
 simp only [dB,decide_eq_true_eq]
 constructor
 ·rintro ⟨x,hx,rfl⟩; exact hx
 ·intro h; exact ⟨v,h,rfl⟩
theorem I8 {N:Nat} (hN:1099000000000≤N) (xs:List ByteArray) (v:ByteArray) (hl:xs.length≤4294967296):bA N xs v=some (decide (v∈xs)):=by
 unfold bA
 obtain ⟨r,h1,h2⟩:=Kl hN xs v hl
 rw [h1,Option.bind_some,h2]
theorem GN {N:Nat} (hN:1099000000000≤N) (s:List ByteArray) (v:ByteArray) (hl:s.length≤4294967295):mg N s v=some (cG s v):=by
 unfold mg cG
 rw [I8 hN s v (by omega),Option.bind_some]
 by_cases h:v∈s
 ·simp [h]
 ·simp only [h,decide_false,Bool.false_eq_true,if_false,bQ (show s.length+[v].length≤4294967296 by simp; omega),Option.bind_some]
theorem uu {N:Nat} (hN:1099000000000≤N) (l:List bk) (s:List ByteArray) (hl:s.length+l.length≤4294967290):iK N s l=some ((ce l).foldl cG s):=by
 unfold iK
 refine lp' hN l (by omega) (ee N l) (fun t s=>some ((ce t).foldl cG s)) (fun s t=>s.length+t.length≤4294967290) s hl (fun n s i x t h1 h2 h3 h4 h5 h6 hI ih=>?_) (fun n s i h1 h2 hI=>?_)
 ·simp only [List.length_cons] at hI
  simp only [ee,h5,if_true,h4,Option.bind_some,h6,ce,GN hN s x.S (by omega)]
  by_cases h:x.K=1
  ·simp only [h,decide_true,if_true,List.foldl_cons]
   exact ih _ (by have:=tF s x.S; omega)
  ·simp only [h,decide_false,Bool.false_eq_true,if_false]
   exact ih _ (by omega)
 ·simp only [ee,h2,Bool.false_eq_true,if_false]; rfl
theorem Ew {N:Nat} (hN:1099000000000≤N) (r:ac) (hl:r.Pats.length≤1048576) (ha:iY r.Pats≤1048576):jM N r=some ((eA r.Pats).foldl cG []):=by
 unfold jM
 refine lp' hN r.Pats (by omega) (eh N r) (fun t s=>some ((eA t).foldl cG s)) (fun s t=>s.length+iY t≤4294967290) [] (by simp; omega) (fun n s i x t h1 h2 h3 h4 h5 h6 hI ih=>?_) (fun n s i h1 h2 hI=>?_)
 ·have hI':s.length+(x.Args.length+iY t)≤4294967290:=by simpa [iY] using hI
  simp only [eh,h5,if_true,h4,Option.bind_some,h6,eA,uu hN x.Args s (by omega)]
  cases hx:x.Not with
  | true=>simpa using ih s (by omega)
  | false=>
   have h1:=gz x.Args
   have h2:=lg (ce x.Args) s
   simpa [List.foldl_append] using ih _ (show ((ce x.Args).foldl cG s).length+iY t≤4294967290 by omega)
 ·simp only [eh,h2,Bool.false_eq_true,if_false]; rfl
def ah:List ao→Nat
 | []=>0
 | p :: t=>if p.Not then ah t else ah t+1
theorem fy:∀ (l:List ao),ah l≤l.length
 | []=>by simp [ah]
 | p :: t=>by have:=fy t; unfold ah; split <;> simp <;> omega
theorem DL {N:Nat} (hN:1099000000000≤N) (r:ac) (hl:r.Pats.length≤1048576):iU N r=some (ah r.Pats:Int):=by
 unfold iU
 have:=lp' hN r.Pats (by omega) (cN N r) (fun t s=>some (s+(ah t:Int))) (fun s t=>0≤s∧s+t.length≤1048576) (0:Int) (by simp; omega) (fun n s i x t h1 h2 h3 h4 h5 h6 hI ih=>by
  simp only [List.length_cons] at hI
  simp only [cN,h5,if_true,h4,Option.bind_some,h6,ah]
  cases hx:x.Not with
  | true=>simpa using ih s (by omega)
  | false=>
   rw [wr (n:=s+1) (by omega) (by omega)]
   have:=ih (s+1) (by omega)
   simp only [Bool.not_false,if_true,this,Bool.false_eq_true,if_false]
   congr 1; omega) (fun n s i h1 h2 hI=>by simp only [cN,h2,Bool.false_eq_true,if_false,ah]; simp)
 simpa using this
theorem DK {N:Nat} (hN:1099000000000≤N) (r:ac) (hl:r.Pats.length≤1048576):gJ N r=some (ah r.Pats:Int):=by
 unfold gJ
 have:=lp' hN r.Pats (by omega) (cQ N r) (fun t s=>some (s+(ah t:Int))) (fun s t=>0≤s∧s+t.length≤1048576) (0:Int) (by simp; omega) (fun n s i x t h1 h2 h3 h4 h5 h6 hI ih=>by
  simp only [List.length_cons] at hI
  simp only [cQ,h5,if_true,h4,Option.bind_some,h6,ah]
  cases hx:x.Not with
  | true=>simpa using ih s (by omega)
  | false=>
   rw [wr (n:=s+1) (by omega) (by omega)]
   have:=ih (s+1) (by omega)
   simp only [Bool.not_false,if_true,this,Bool.false_eq_true,if_false]
   congr 1; omega) (fun n s i h1 h2 hI=>by simp only [cQ,h2,Bool.false_eq_true,if_false,ah]; simp)
 simpa using this
def ml (vs:List ByteArray) (a:bk):Bool:=!decide (a.K=1) || decide (a.S∈vs)
theorem DE {N:Nat} (hN:1099000000000≤N) (a:bk) (vs:List ByteArray) (h:vs.length≤4294967296):gv N a vs=some (ml vs a):=by
 unfold gv ml
 simp only [Iq0 hN vs a.S h,Option.bind_some,LC]
def go (c:Nat):Nat→List ao→Bool
 | _,[]=>true
 | i,p :: t=>mX p && ((p.Not == decide (c≤i)) && go c (i+1) t)
def iP (l:List ao):Bool:=(decide (1≤l.length) && decide (l.length≤6)) && ((decide (1≤ah l) && decide (ah l≤3)) && go (ah l) 0 l)
theorem JP {N:Nat} (hN:1099000000000≤N) (r:ac) (hl:r.Pats.length≤1048576) (hp:∀ p∈r.Pats,zY p):ov N r=some (iP r.Pats):=by
 have hc:=DK hN r hl
 have lp:∀ (n i:Nat),i≤r.Pats.length→r.Pats.length - i < n→dI N r n i=some (go (ah r.Pats) i (r.Pats.drop i)):=by
  intro n
  induction n with
  | zero=>intro i _ h; omega
  | succ n ih=>
   intro i hi hn
   by_cases hlt:i < r.Pats.length
   ·have c1:decide ((i:Int) < (r.Pats.length:Int))=true:=decide_eq_true (by omega)
    rw [List.drop_eq_getElem_cons hlt]
    simp only [dI,c1,if_true,ag hlt,Option.bind_some,Li hN _ (hp _ (List.getElem_mem hlt)),hc,wr1 i (by omega),ih (i+1) (by omega) (by omega),go]
    have hd:decide ((ah r.Pats:Int)≤(i:Int))=decide (ah r.Pats≤i):=by rw [decide_eq_decide]; omega
    rw [hd]
    cases mX r.Pats[i] <;> cases r.Pats[i].Not <;> cases decide (ah r.Pats≤i) <;> rfl
   ·have c1:decide ((i:Int) < (r.Pats.length:Int))=false:=decide_eq_false (by omega)
    rw [List.drop_of_length_le (by omega)]
    simp only [dI,c1,Bool.false_eq_true,if_false]; rfl
 have l0:=lp N 0 (by omega) (by omega)
 have h1:decide ((1:Int)≤(r.Pats.length:Int))=decide (1≤r.Pats.length):=by rw [decide_eq_decide]; omega
 have h2:decide ((r.Pats.length:Int)≤6)=decide (r.Pats.length≤6):=by rw [decide_eq_decide]; omega
 have h3:decide ((1:Int)≤(ah r.Pats:Int))=decide (1≤ah r.Pats):=by rw [decide_eq_decide]; omega
 have h4:decide ((ah r.Pats:Int)≤3)=decide (ah r.Pats≤3):=by rw [decide_eq_decide]; omega
 unfold ov iP
 simp only [in1,Option.bind_some,hc,h1,h2,h3,h4]
 rw [show dI N r N 0=_ from l0,List.drop_zero]
 cases (decide (1≤r.Pats.length) && decide (r.Pats.length≤6)) <;> cases (decide (1≤ah r.Pats) && decide (ah r.Pats≤3)) <;> rfl
def tC:Nat→Bool→List ao→Bool
 | _,_,[]=>true
 | i,b,p :: t=>!(decide (2 < i) && !p.Not) && (mX p && (!(decide (i=0) && p.Not) && (!((decide (0 < i) && b) && !p.Not) && tC (i+1) p.Not t)))
theorem Gk:∀ (l:List ao) (i:Nat),0 < i→tC i true l=(l.all mX && l.all fun p=>p.Not)
 | [],i,h=>rfl
 | p :: t,i,h=>by
  have h1:decide (i=0)=false:=decide_eq_false (by omega)
  have h2:decide (0 < i)=true:=decide_eq_true h
  unfold tC
  simp only [h1,h2,Bool.false_and,Bool.not_false,Bool.true_and,List.all_cons]
  cases hp:p.Not with
  | false=>cases mX p <;> simp
  | true=>
   rw [Gk t (i+1) (by omega)]
   cases mX p <;> simp
theorem B4 (c:Nat):∀ (l:List ao) (i:Nat),c≤i→go c i l=(l.all mX && l.all fun p=>p.Not)
 | [],i,h=>rfl
 | p :: t,i,h=>by
  have h1:decide (c≤i)=true:=decide_eq_true h
  unfold go
  rw [B4 c t (i+1) (by omega),h1]
  simp only [List.all_cons]
  cases mX p <;> cases p.Not <;> simp
theorem mR:∀ (l:List ao),(l.all fun p=>p.Not)=true↔ah l=0
 | []=>by simp [ah]
 | p :: t=>by
  unfold ah
  have:=mR t
  cases hp:p.Not with
  | true=>simp [hp]; simpa using this
  | false=>simp [hp]
theorem zK:∀ (l:List ao) (i:Nat) (b:Bool),(0 < i→b=false)→i≤3→(tC i b l=true↔(i=0→l=[]∨0 < ah l)∧i+ah l≤3∧go (i+ah l) i l=true)
 | [],i,b,hb,hi=>by simp [tC,ah,go,hi]
 | p :: t,i,b,hb,hi=>by
  have hb':(decide (0 < i) && b)=false:=by
   by_cases h:0 < i
   ·simp [hb h]
   ·simp [h]
  unfold tC go ah
  rw [hb']
  cases hp:p.Not with
  | true=>
   simp only [Bool.not_true,Bool.and_false,Bool.not_false,Bool.true_and,if_true,Bool.and_true,Bool.false_and]
   by_cases h0:i=0
   ·subst h0
    simp only [decide_true,Bool.not_true,Bool.and_false,Bool.false_and,Bool.false_eq_true,false_iff]
    rintro ⟨h1,h2,h3⟩
    have h1:0 < ah t:=by simpa using h1
    simp only [Bool.and_eq_true,beq_iff_eq] at h3
    have:=h3.2.1
    simp at this
    omega
   ·rw [decide_eq_false h0,Gk t (i+1) (by omega)]
    simp only [Bool.not_false,Bool.true_and,Bool.and_eq_true,beq_iff_eq,h0,false_implies,true_and]
    constructor
    ·rintro ⟨h1,h2,h3⟩
     have h4:=(mR t).1 h3
     rw [h4]
     refine ⟨by omega,h1,by simp,?_⟩
     rw [B4 _ t (i+1) (by omega),h2,h3]; rfl
    ·rintro ⟨h1,h2,h3,h4⟩
     have h5:i+ah t≤i:=by simpa using h3
     have h6:ah t=0:=by omega
     exact ⟨h2,by
      rw [B4 _ t (i+1) (by omega)] at h4
      simp only [Bool.and_eq_true] at h4
      exact h4.1,(mR t).2 h6⟩
  | false=>
   simp only [Bool.not_false,Bool.and_true,Bool.and_false,Bool.true_and,Bool.false_eq_true,if_false,Bool.and_eq_true,beq_iff_eq]
   have e1:decide (i+(ah t+1)≤i)=false:=decide_eq_false (by omega)
   rw [e1]
   have ar:i+(ah t+1)=i+1+ah t:=by omega
   by_cases h2:2 < i
   ·simp only [h2,decide_true,Bool.not_true,Bool.false_eq_true,false_and,false_iff]
    rintro ⟨_,h3,_⟩; omega
   ·have:=zK t (i+1) false (fun _=>rfl) (by omega)
    simp only [h2,decide_false,Bool.not_false,true_and]
    rw [this,ar]
    constructor
    ·rintro ⟨h3,_,h4,h5⟩
     refine ⟨fun _=>.inr (by omega),h4,h3,?_⟩
     first | exact ⟨rfl,h5⟩ | exact h5
    ·rintro ⟨_,h4,h3,h5⟩
     refine ⟨h3,by omega,h4,?_⟩
     first | exact h5.2 | exact h5
theorem Eu (l:List ao):(tC 0 false l && (decide (1≤l.length) && decide (l.length≤6)))=iP l:=by
 have:=zK l 0 false (by simp) (by omega)
 simp only [true_implies,Nat.zero_add] at this
 rw [Bool.eq_iff_iff]
 unfold iP
 simp only [Bool.and_eq_true,decide_eq_true_eq,this]
 constructor
 ·rintro ⟨⟨h1,h2,h3⟩,h4,h5⟩
  have h1:=h1.resolve_left (by rintro rfl; simp at h4)
  exact ⟨⟨h4,h5⟩,⟨by omega,h2⟩,h3⟩
 ·rintro ⟨⟨h4,h5⟩,⟨h1,h2⟩,h3⟩
  exact ⟨⟨.inr (by omega),h2,h3⟩,h4,h5⟩
theorem Jv {N:Nat} (hN:1099000000000≤N) (l:List ao) (hl:l.length≤1048576) (hp:∀ p∈l,zY p):nZ N l=some (iP l):=by
 have lp:∀ (n i:Nat) (b:Bool),i≤l.length→l.length - i < n→(∀ (h:i - 1 < l.length),0 < i→l[i - 1].Not=b)→dM N l n i=some (tC i b (l.drop i) && (decide (1≤l.length) && decide (l.length≤6))):=by
  intro n
  induction n with
  | zero=>intro i b _ h; omega
  | succ n ih=>
   intro i b hi hn hb
   by_cases hlt:i < l.length
   ·have c1:decide ((i:Int) < (l.length:Int))=true:=decide_eq_true (by omega)
    have h2:decide ((2:Int) < (i:Int))=decide (2 < i):=by rw [decide_eq_decide]; omega
    have h3:decide ((i:Int)=0)=decide (i=0):=by rw [decide_eq_decide]; omega
    have h4:decide ((0:Int) < (i:Int))=decide (0 < i):=by rw [decide_eq_decide]; omega
    rw [List.drop_eq_getElem_cons hlt]
    simp only [dM,c1,if_true,ag hlt,Option.bind_some,Kt hN _ (hp _ (List.getElem_mem hlt)),h2,h3,h4,wr1 i (by omega),ih (i+1) l[i].Not (by omega) (by omega) (fun h _=>rfl),tC]
    by_cases h0:0 < i
    ·have e1:IntKind.i64.wrap ((i:Int) - 1)=((i - 1:Nat):Int):=by rw [wr (by omega) (by omega)]; omega
     have e2:=hb (by omega) h0
     have e3:decide (i=0)=false:=decide_eq_false (by omega)
     simp only [h0,decide_true,if_true,e1,ag (show i - 1 < l.length by omega),Option.bind_some,e2,e3]
     cases decide (2 < i) <;> cases l[i].Not <;> cases mX l[i] <;> cases b <;> simp
    ·have e3:decide (i=0)=true:=decide_eq_true (by omega)
     simp only [h0,decide_false,Bool.false_eq_true,if_false,Option.bind_some,e3]
     cases decide (2 < i) <;> cases l[i].Not <;> cases mX l[i] <;> simp
   ·have c1:decide ((i:Int) < (l.length:Int))=false:=decide_eq_false (by omega)
    have h1:decide ((1:Int)≤(l.length:Int))=decide (1≤l.length):=by rw [decide_eq_decide]; omega
    have h2:decide ((l.length:Int)≤6)=decide (l.length≤6):=by rw [decide_eq_decide]; omega
    rw [List.drop_of_length_le (by omega)]
    simp only [dM,c1,Bool.false_eq_true,if_false,in0,Option.bind_some,h1,h2]; rfl
 unfold nZ
 rw [show dM N l N 0=_ from lp N 0 false (by omega) (by omega) (fun _ h=>by omega),List.drop_zero,Eu]
def qL (vs:List ByteArray) (c:bz):Bool:=pK c && (ml vs c.L && ml vs c.R)
theorem HD {N:Nat} (hN:1099000000000≤N) (l:List bz) (vs:List ByteArray) (hl:l.length≤1048576) (h:∀ c∈l,w7 c) (hv:vs.length≤4294967296):mf N l vs=some (l.all (qL vs) && decide (l.length≤6)):=by
 have h2:decide ((l.length:Int)≤6)=decide (l.length≤6):=by rw [decide_eq_decide]; omega
 unfold mf
 refine lp0 hN l (by omega) (ek N l vs) (fun t=>some (t.all (qL vs) && decide (l.length≤6))) (fun n i x t g1 g2 g3 g4 g5 g6 g7=>?_) (fun n i g1 g2=>?_)
 ·simp only [ek,g5,if_true,g4,Option.bind_some,Iu hN x (h x g2),DE hN _ vs hv,g6,g7,List.all_cons,qL]
  cases pK x <;> cases ml vs x.L <;> cases ml vs x.R <;> simp
 ·simp only [ek,g2,Bool.false_eq_true,if_false,h2]; rfl
def qV (vs:List ByteArray) (e:br):Bool:=ml vs e.L && ml vs e.R
def rz (vs:List ByteArray) (pos:Nat) (a:bX):Bool:=rm a && (!(decide (a.Kind=2) && decide ((pos:Int)≤a.N)) && a.Args.all (qV vs))
theorem Jl {N:Nat} (hN:1099000000000≤N) (l:List bX) (vs:List ByteArray) (pos:Nat) (hl:l.length≤1048576) (h:∀ c∈l,zU c) (hv:vs.length≤4294967296):oT N l vs pos=some (l.all (rz vs pos) && (decide (1≤l.length) && decide (l.length≤6))):=by
 have h1:decide ((1:Int)≤(l.length:Int))=decide (1≤l.length):=by rw [decide_eq_decide]; omega
 have h2:decide ((l.length:Int)≤6)=decide (l.length≤6):=by rw [decide_eq_decide]; omega
 unfold oT
 refine lp0 hN l (by omega) (cF N l vs pos) (fun t=>some (t.all (rz vs pos) && (decide (1≤l.length) && decide (l.length≤6)))) (fun n i x t g1 g2 g3 g4 g5 g6 g7=>?_) (fun n i g1 g2=>?_)
 ·have hx:=h x g2
  have inner:=lp0 hN x.Args (by have:=hx.2.2.1; omega) (eP N l vs i (cF N l vs pos n)) (fun u=>some (u.all (qV vs) && (t.all (rz vs pos) && (decide (1≤l.length) && decide (l.length≤6))))) (fun n' i' y u k1 k2 k3 k4 k5 k6 k7=>by
   simp only [eP,g4,Option.bind_some,k5,if_true,k4,DE hN _ vs hv,k6,k7,List.all_cons,qV]
   cases ml vs y.L <;> cases ml vs y.R <;> simp) (fun n' i' k1 k2=>by
   simp only [eP,g4,Option.bind_some,k2,Bool.false_eq_true,if_false,g6,g7,List.all_nil,Bool.true_and])
  simp only [cF,g5,if_true,g4,Option.bind_some,KS hN x hx,inner,List.all_cons,rz]
  cases rm x <;> cases decide (x.Kind=2) <;> cases decide ((pos:Int)≤x.N) <;> simp [Bool.and_assoc]
 ·simp only [cF,g2,Bool.false_eq_true,if_false,in0,Option.bind_some,h1,h2]; rfl
def BS (r:ac):Prop:=r.Name.size≤1048576∧(r.Pats.length≤1048576∧∀ p∈r.Pats,zY p)∧(r.Conds.length≤1048576∧∀ c∈r.Conds,w7 c)∧(r.Acts.length≤1048576∧∀ a∈r.Acts,zU a)∧iY r.Pats≤1048576∧(r.Acts.map fun a=>a.Args.length).sum≤1048576
def lv (r:ac):Bool:=fm r.Name && ((decide (-100≤r.Sal) && decide (r.Sal≤100)) && (iP r.Pats && ((r.Conds.all (qL (gi r)) && decide (r.Conds.length≤6)) && (r.Acts.all (rz (gi r) (ah r.Pats)) && (decide (1≤r.Acts.length) && decide (r.Acts.length≤6))))))
theorem Ix {N:Nat} (hN:1099000000000≤N) (r:ac) (h:BS r):o2 N r=some (lv r):=by
 obtain ⟨h1,⟨h2,h2'⟩,⟨h3,h3'⟩,⟨h4,h4'⟩,h5,h6⟩:=h
 have hb:=A0 h5
 unfold o2 lv
 have e1:=HD hN _ (gi r) h3 h3' (by omega)
 have e2:=Jl hN _ (gi r) (ah r.Pats) h4 h4' (by omega)
 have e0:jF N r=some (gi r):=EV hN r h2 h5 (fun p hp=>(h2' p hp).2.1)
 simp only [e0,Option.bind_some,ql hN _ h1,in0,Jv hN _ h2 h2',e1,DL hN r h2,e2,n9,Bool.and_assoc]
def bT:List bz→List ByteArray
 | []=>[]
 | c :: t=>ce [c.L,c.R]++bT t
def ft:List br→List ByteArray
 | []=>[]
 | e :: t=>ce [e.L,e.R]++ft t
def ck:List bX→List ByteArray
 | []=>[]
 | a :: t=>ft a.Args++ck t
theorem sE:∀ (l:List bz),(bT l).length≤2*l.length
 | []=>by simp [bT]
 | c :: t=>by have:=sE t; have:=gz [c.L,c.R]; simp [bT] at *; omega
theorem sL:∀ (l:List br),(ft l).length≤2*l.length
 | []=>by simp [ft]
 | c :: t=>by have:=sL t; have:=gz [c.L,c.R]; simp [ft] at *; omega
def kg (l:List bX):Nat:=(l.map fun a=>a.Args.length).sum
theorem tE:∀ (l:List bX),(ck l).length≤2*kg l
 | []=>by simp [ck,kg]
 | a :: t=>by have:=tE t; have:=sL a.Args; simp [ck,kg] at *; omega
theorem L7 {N:Nat} (hN:1099000000000≤N) (x:bX) (s4:Nat) (K:List ByteArray→Int→Option (List ByteArray)) (l:List bX) (g:List ByteArray→Option (List ByteArray)) (s:List ByteArray) (hl:s.length+2*x.Args.length≤4294967280) (hx:x.Args.length≤1048576) (h4:s4≤1048576)
  (hK:∀ s',s'.length≤s.length+2*x.Args.length→K s' ((s4+1:Nat):Int)=g s'):dt N s4 K x N s 0=g ((ft x.Args).foldl cG s):=by
 refine lp' hN x.Args (by omega) (dt N s4 K x) (fun t s=>g ((ft t).foldl cG s)) (fun u t=>u.length+2*t.length≤s.length+2*x.Args.length) s (by omega) (fun n u i y t h1 h2 h3 h4' h5 h6 hI ih=>?_) (fun n u i h1 h2 hI=>?_)
 ·simp only [List.length_cons] at hI
  have hv:=lg (ce [y.L,y.R]) u
  have ha:=gz [y.L,y.R]
  simp only [List.length_cons,List.length_nil] at ha
  simp only [dt,h5,if_true,h4',Option.bind_some,uu hN [y.L,y.R] u (by simp; omega),h6,ft,List.foldl_append]
  exact ih _ (by omega)
 ·simp only [dt,h2,Bool.false_eq_true,if_false,wr1 s4 (by omega),ft]
  exact hK u (by simpa using hI)
theorem Jq {N:Nat} (hN:1099000000000≤N) (r:ac) (hc:r.Conds.length≤1048576) (ha:r.Acts.length≤1048576) (hx:∀ a∈r.Acts,a.Args.length≤1048576) (he:kg r.Acts≤1048576):jT N r=some ((bT r.Conds++ck r.Acts).foldl cG []):=by
 unfold jT
 have a2:∀ s:List ByteArray,s.length≤4194304→cv N r N s 0=some ((ck r.Acts).foldl cG s):=fun s hs=>
  lp' hN r.Acts (by omega) (cv N r) (fun t s=>some ((ck t).foldl cG s)) (fun s t=>s.length+2*kg t≤16777216) s (by omega) (fun n u i x t h1 h2 h3 h4 h5 h6 hI ih=>by
   have hI':u.length+2*(x.Args.length+kg t)≤16777216:=by simpa [kg] using hI
   simp only [cv,h5,if_true,h4,Option.bind_some,ck,List.foldl_append]
   exact L7 hN x i (cv N r n) r.Acts (fun s'=>some ((ck t).foldl cG s')) u (by omega) (hx x h2) (by omega) (fun s' hs'=>ih s' (by omega))) (fun n u i h1 h2 hI=>by simp only [cv,h2,Bool.false_eq_true,if_false]; rfl)
 refine lp' hN r.Conds (by omega) (eu N r) (fun t s=>some ((bT t++ck r.Acts).foldl cG s)) (fun s t=>s.length+2*t.length≤4194304) [] (by simp; omega) (fun n u i x t h1 h2 h3 h4 h5 h6 hI ih=>?_) (fun n u i h1 h2 hI=>?_)
 ·simp only [List.length_cons] at hI
  have hv:=lg (ce [x.L,x.R]) u
  have ha:=gz [x.L,x.R]
  simp only [List.length_cons,List.length_nil] at ha
  simp only [eu,h5,if_true,h4,Option.bind_some,uu hN [x.L,x.R] u (by simp; omega),h6,bT,List.append_assoc]
  rw [List.foldl_append]
  exact ih _ (by omega)
 ·simp only [eu,h2,Bool.false_eq_true,if_false,bT,List.nil_append]
  exact a2 u (by simpa using hI)
theorem zX (vs:List ByteArray) (a b:bk):(ml vs a && ml vs b)=true↔∀ x∈ce [a,b],x∈vs:=by
 unfold ml
 simp only [rR,List.mem_cons,List.not_mem_nil,or_false,Bool.and_eq_true,Bool.or_eq_true,Bool.not_eq_true',decide_eq_false_iff_not,decide_eq_true_eq]
 constructor
 ·rintro ⟨h1,h2⟩ x ⟨c,rfl | rfl,h3,rfl⟩
  ·exact h1.resolve_left (fun h=>h h3)
  ·exact h2.resolve_left (fun h=>h h3)
 ·intro h
  refine ⟨?_,?_⟩
  ·by_cases h1:a.K=1
   ·exact .inr (h _ ⟨a,.inl rfl,h1,rfl⟩)
   ·exact .inl h1
  ·by_cases h1:b.K=1
   ·exact .inr (h _ ⟨b,.inr rfl,h1,rfl⟩)
   ·exact .inl h1
theorem sD (vs:List ByteArray):∀ (l:List bz),(∀ x∈bT l,x∈vs)↔∀ c∈l,(ml vs c.L && ml vs c.R)=true
 | []=>by simp [bT]
 | c :: t=>by
  simp only [bT,List.mem_append,or_imp,forall_and,sD vs t,List.mem_cons,forall_eq,zX]
theorem sP (vs:List ByteArray):∀ (l:List br),(∀ x∈ft l,x∈vs)↔∀ c∈l,qV vs c=true
 | []=>by simp [ft]
 | c :: t=>by
  simp only [ft,List.mem_append,or_imp,forall_and,sP vs t,List.mem_cons,forall_eq,qV,zX]
theorem tq (vs:List ByteArray):∀ (l:List bX),(∀ x∈ck l,x∈vs)↔∀ a∈l,a.Args.all (qV vs)=true
 | []=>by simp [ck]
 | c :: t=>by
  simp only [ck,List.mem_append,or_imp,forall_and,tq vs t,List.mem_cons,forall_eq,sP,List.all_eq_true]
theorem J7 {N:Nat} (hN:1099000000000≤N) (r:ac) (h:BS r):nM N r=some (lv r):=by
 obtain ⟨h1,⟨h2,h2'⟩,⟨h3,h3'⟩,⟨h4,h4'⟩,h5,h6⟩:=h
 have hb:=A0 h5
 have e0:jM N r=some (gi r):=Ew hN r h2 h5
 have e1:=Jq hN r h3 h4 (fun a ha=>(h4' a ha).2.2.1) h6
 have ul:((bT r.Conds++ck r.Acts).foldl cG []).length≤4294967296:=by
  have a1:=lg (bT r.Conds++ck r.Acts) []
  have a2:=sE r.Conds
  have a3:=tE r.Acts
  have a4:kg r.Acts≤1048576:=h6
  simp only [List.length_append,List.length_nil] at a1; omega
 have l3:dT N (gi r) ((bT r.Conds++ck r.Acts).foldl cG []) N 0=some (((bT r.Conds++ck r.Acts).foldl cG []).all fun x=>decide (x∈gi r)):=
  lp0 hN _ ul (dT N (gi r) _) (fun t=>some (t.all fun x=>decide (x∈gi r))) (fun n i x t g1 g2 g3 g4 g5 g6 g7=>by
   simp only [dT,g5,if_true,g4,Option.bind_some,I8 hN _ x (show (gi r).length≤4294967296 by omega),g6,g7,List.all_cons]
   cases decide (x∈gi r) <;> rfl) (fun n i g1 g2=>by simp only [dT,g2,Bool.false_eq_true,if_false]; rfl)
 have l2:dV N r N 0=some ((r.Acts.all fun a=>rm a && !(decide (a.Kind=2) && decide ((ah r.Pats:Int)≤a.N))) && ((bT r.Conds++ck r.Acts).foldl cG []).all fun x=>decide (x∈gi r)):=
  lp0 hN r.Acts (by omega) (dV N r) (fun t=>some ((t.all fun a=>rm a && !(decide (a.Kind=2) && decide ((ah r.Pats:Int)≤a.N))) && ((bT r.Conds++ck r.Acts).foldl cG []).all fun x=>decide (x∈gi r))) (fun n i x t g1 g2 g3 g4 g5 g6 g7=>by
   simp only [dV,g5,if_true,g4,Option.bind_some,Ky hN x (h4' x g2),DK hN r h2,g6,g7,List.all_cons]
   cases rm x <;> cases decide (x.Kind=2) <;> cases decide ((ah r.Pats:Int)≤x.N) <;> simp) (fun n i g1 g2=>by
   simp only [dV,g2,Bool.false_eq_true,if_false,e0,e1,Option.bind_some,l3]; rfl)
 have l1:dY N r N 0=some (r.Conds.all pK && ((r.Acts.all fun a=>rm a && !(decide (a.Kind=2) && decide ((ah r.Pats:Int)≤a.N))) && ((bT r.Conds++ck r.Acts).foldl cG []).all fun x=>decide (x∈gi r))):=
  lp0 hN r.Conds (by omega) (dY N r) (fun t=>some (t.all pK && ((r.Acts.all fun a=>rm a && !(decide (a.Kind=2) && decide ((ah r.Pats:Int)≤a.N))) && ((bT r.Conds++ck r.Acts).foldl cG []).all fun x=>decide (x∈gi r)))) (fun n i x t g1 g2 g3 g4 g5 g6 g7=>by
   simp only [dY,g5,if_true,g4,Option.bind_some,J3 hN x (h3' x g2),g6,g7,List.all_cons]
   cases pK x <;> simp) (fun n i g1 g2=>by
   simp only [dY,g2,Bool.false_eq_true,if_false,l2]; rfl)
 have d1:decide ((6:Int) < (r.Conds.length:Int)) = !decide (r.Conds.length≤6):=by rw [← decide_not,decide_eq_decide]; omega
 have d2:decide ((1:Int)≤(r.Acts.length:Int))=decide (1≤r.Acts.length):=by rw [decide_eq_decide]; omega
 have d3:decide ((r.Acts.length:Int)≤6)=decide (r.Acts.length≤6):=by rw [decide_eq_decide]; omega
 have key:(r.Conds.all pK && ((r.Acts.all fun a=>rm a && !(decide (a.Kind=2) && decide ((ah r.Pats:Int)≤a.N))) && ((bT r.Conds++ck r.Acts).foldl cG []).all fun x=>decide (x∈gi r)))=(r.Conds.all (qL (gi r)) && r.Acts.all (rz (gi r) (ah r.Pats))):=by
  rw [Bool.eq_iff_iff]
  have k1:(((bT r.Conds++ck r.Acts).foldl cG []).all fun x=>decide (x∈gi r))=true↔(∀ c∈r.Conds,(ml (gi r) c.L && ml (gi r) c.R)=true)∧∀ a∈r.Acts,a.Args.all (qV (gi r))=true:=by
   rw [← sD,← tq]
   simp only [List.all_eq_true,decide_eq_true_eq,um,List.not_mem_nil,false_or,List.mem_append,or_imp,forall_and]
  rw [Bool.and_eq_true,Bool.and_eq_true,Bool.and_eq_true,k1]
  simp only [List.all_eq_true,qL,rz,Bool.and_eq_true,forall_and,and_imp]
  constructor
  ·rintro ⟨a1,⟨a2,a3⟩,⟨a4,a5⟩,a6⟩; exact ⟨⟨a1,a4,a5⟩,a2,a3,a6⟩
  ·rintro ⟨⟨a1,a4,a5⟩,a2,a3,a6⟩; exact ⟨a1,⟨a2,a3⟩,⟨a4,a5⟩,a6⟩
 unfold nM lv
 simp only [qf hN _ h1,Option.bind_some,in1,JP hN r h2 h2',d1,d2,d3,l1,key]
 generalize fm r.Name=a; generalize iP r.Pats=b; generalize (decide (-100≤r.Sal) && decide (r.Sal≤100))=c; generalize decide (r.Conds.length≤6)=d; generalize (decide (1≤r.Acts.length) && decide (r.Acts.length≤6))=e
 generalize r.Conds.all (qL (gi r))=f; generalize r.Acts.all (rz (gi r) (ah r.Pats))=g
 cases a <;> cases b <;> cases c <;> cases d <;> cases e <;> cases f <;> cases g <;> rfl
def td (l:List ac) (v:ByteArray):Int:=match l.findIdx? (fun r=>seq r.Name v) with | some j=>(j:Int) | none=>-1
theorem LM {N:Nat} (hN:1099000000000≤N) (d:bh) (v:ByteArray) (hl:d.Rules.length≤1048576):oM N d v=some (td d.Rules v):=by
 unfold oM td
 have a:=vI (eJ N d v) d.Rules (by omega) (fun x=>seq x.Name v) (fun n i x hx _ hc hw=>by simp only [eJ,hc,if_true,hx,Option.bind_some,hw]) (fun n i hc=>by simp only [eJ,hc,Bool.false_eq_true,if_false]) N 0 (by omega) (by omega)
 rw [show ((0:Nat):Int)=0 from rfl,List.drop_zero] at a
 rw [a]
 cases d.Rules.findIdx? (fun r=>seq r.Name v) <;> simp
theorem M3 {N:Nat} (hN:1099000000000≤N) (d:bh) (v:ByteArray) (hl:d.Rules.length≤1048576):p8 N d v=some (td d.Rules v):=by
 unfold p8 cE td
 have b:=vI (aO N d.Rules (fun a0=>ia N a0 v)) d.Rules (by omega) (fun x=>seq x.Name v) (fun n i x hx _ hc hw=>by simp only [aO,ia,hc,if_true,hx,Option.bind_some,hw]) (fun n i hc=>by simp only [aO,hc,Bool.false_eq_true,if_false]) N 0 (by omega) (by omega)
 rw [show ((0:Nat):Int)=0 from rfl,List.drop_zero] at b
 rw [b]
 cases d.Rules.findIdx? (fun r=>seq r.Name v) <;> simp
def gV (all:List ac):Nat→List ac→Bool
 | _,[]=>true
 | i,r :: t=>lv r && (decide (td all r.Name=(i:Int)) && gV all (i+1) t)
def qn (d:bh):Bool:=fm d.Name && ((decide (1≤d.Rules.length) && decide (d.Rules.length≤12)) && gV d.Rules 0 d.Rules)
def BZ (d:bh):Prop:=d.Name.size≤1048576∧d.Rules.length≤1048576∧∀ r∈d.Rules,BS r
theorem KE {N:Nat} (hN:1099000000000≤N) (d:bh) (h:BZ d):qj N d=some (qn d):=by
 obtain ⟨h1,h2,h3⟩:=h
 have lp:∀ (n i:Nat),i≤d.Rules.length→d.Rules.length - i < n→eE N d n i=some (gV d.Rules i (d.Rules.drop i)):=by
  intro n
  induction n with
  | zero=>intro i _ h; omega
  | succ n ih=>
   intro i hi hn
   by_cases hlt:i < d.Rules.length
   ·have c1:decide ((i:Int) < (d.Rules.length:Int))=true:=decide_eq_true (by omega)
    rw [List.drop_eq_getElem_cons hlt]
    simp only [eE,c1,if_true,ag hlt,Option.bind_some,J7 hN _ (h3 _ (List.getElem_mem hlt)),M3 hN d _ h2,wr1 i (by omega),ih (i+1) (by omega) (by omega),gV]
    cases lv d.Rules[i] <;> cases decide (td d.Rules d.Rules[i].Name=(i:Int)) <;> simp
   ·have c1:decide ((i:Int) < (d.Rules.length:Int))=false:=decide_eq_false (by omega)
    rw [List.drop_of_length_le (by omega)]
    simp only [eE,c1,Bool.false_eq_true,if_false]; rfl
 have l0:=lp N 0 (by omega) (by omega)
 have d1:decide ((1:Int)≤(d.Rules.length:Int))=decide (1≤d.Rules.length):=by rw [decide_eq_decide]; omega
 have d2:decide ((d.Rules.length:Int)≤12)=decide (d.Rules.length≤12):=by rw [decide_eq_decide]; omega
 unfold qj qn
 simp only [qf hN _ h1,Option.bind_some,in1,d1,d2]
 rw [show eE N d N 0=_ from l0,List.drop_zero]
 cases fm d.Name <;> cases (decide (1≤d.Rules.length) && decide (d.Rules.length≤12)) <;> rfl
theorem L5 {N:Nat} (hN:1099000000000≤N) (d:bh) (h:BZ d):qe N d=some (qn d):=by
 obtain ⟨h1,h2,h3⟩:=h
 have d1:decide ((1:Int)≤(d.Rules.length:Int))=decide (1≤d.Rules.length):=by rw [decide_eq_decide]; omega
 have d2:decide ((d.Rules.length:Int)≤12)=decide (d.Rules.length≤12):=by rw [decide_eq_decide]; omega
 have lp:∀ (n i:Nat),i≤d.Rules.length→d.Rules.length - i < n→eB N d n i=some (gV d.Rules i (d.Rules.drop i) && (fm d.Name && (decide (1≤d.Rules.length) && decide (d.Rules.length≤12)))):=by
  intro n
  induction n with
  | zero=>intro i _ h; omega
  | succ n ih=>
   intro i hi hn
   by_cases hlt:i < d.Rules.length
   ·have c1:decide ((i:Int) < (d.Rules.length:Int))=true:=decide_eq_true (by omega)
    rw [List.drop_eq_getElem_cons hlt]
    simp only [eB,c1,if_true,ag hlt,Option.bind_some,Ix hN _ (h3 _ (List.getElem_mem hlt)),LM hN d _ h2,wr1 i (by omega),ih (i+1) (by omega) (by omega),gV]
    cases lv d.Rules[i] <;> cases decide (td d.Rules d.Rules[i].Name=(i:Int)) <;> simp
   ·have c1:decide ((i:Int) < (d.Rules.length:Int))=false:=decide_eq_false (by omega)
    rw [List.drop_of_length_le (by omega)]
    simp only [eB,c1,Bool.false_eq_true,if_false,ql hN _ h1,in0,Option.bind_some,d1,d2,n9,gV,Bool.true_and]
 have l0:=lp N 0 (by omega) (by omega)
 unfold qe qn
 rw [show eB N d N 0=_ from l0,List.drop_zero]
 cases gV d.Rules 0 d.Rules <;> simp
theorem qK {d:bh} (h:qn d=true):∀ r∈d.Rules,lv r=true:=by
 unfold qn at h
 simp only [Bool.and_eq_true] at h
 have:∀ (l:List ac) (i:Nat),gV d.Rules i l=true→∀ r∈l,lv r=true:=by
  intro l
  induction l with
  | nil=>intro i _ r hr; cases hr
  | cons x t ih=>
   intro i hi r hr
   unfold gV at hi
   simp only [Bool.and_eq_true] at hi
   rcases List.mem_cons.1 hr with rfl | hr
   ·exact hi.1
   ·exact ih _ hi.2.2 r hr
 exact this _ _ h.2.2
def bc (as:List aj) (a:aj):Int × List aj:=match as.findIdx? (fun x=>decide (x=a)) with | some j=>((j:Int),as) | none=>((as.length:Int),as++[a])
def be:List aj→List Int→List Int→List ao→List aj × List Int × List Int
 | as,p,n,[]=>(as,p,n)
 | as,p,n,x :: t=>if x.Not then be (bc as (aI x)).2 p (n++[(bc as (aI x)).1]) t else be (bc as (aI x)).2 (p++[(bc as (aI x)).1]) n t
def d7:List aj→List aC→List ac→bB
 | as,cs,[]=>⟨as,cs⟩
 | as,cs,r :: t=>d7 (be as [] [] r.Pats).1 (cs++[⟨(be as [] [] r.Pats).2.1,(be as [] [] r.Pats).2.2⟩]) t
def cm (d:bh):bB:=d7 [] [] d.Rules
theorem tb {p:ao} (h:p.Args.length≤1048576):jp (aI p):=by
 have h1:=vB p.Args
 have h2:=DY p.Args 0
 exact ⟨by show (iO p.Args).length≤_; omega,by show (ats 0 p.Args).length≤_; omega⟩
theorem pm (as:List aj) (a:aj):(bc as a).2.length≤as.length+1∧as.length≤(bc as a).2.length:=by
 unfold bc
 split <;> simp
theorem rM {P:aj→Prop} {as:List aj} {a:aj} (h:∀ x∈as,P x) (ha:P a):∀ x∈(bc as a).2,P x:=by
 unfold bc
 split
 ·exact h
 ·intro x hx
  rcases List.mem_append.1 hx with h1 | h1
  ·exact h x h1
  ·simp at h1; rw [h1]; exact ha
theorem rK {P:aj→Prop}:∀ (t:List ao) (as:List aj) (p n:List Int),(∀ x∈as,P x)→(∀ x∈t,P (aI x))→∀ x∈(be as p n t).1,P x
 | [],as,p,n,h,_=>h
 | x :: t,as,p,n,h,ht=>by
  unfold be
  have:=rM h (ht x (by simp))
  split
  ·exact rK t _ _ _ this fun y hy=>ht y (by simp [hy])
  ·exact rK t _ _ _ this fun y hy=>ht y (by simp [hy])
theorem rS:∀ (t:List ao) (as:List aj) (p n:List Int),(be as p n t).1.length≤as.length+t.length∧(be as p n t).2.1.length+(be as p n t).2.2.length=p.length+n.length+t.length
 | [],as,p,n=>by simp [be]
 | x :: t,as,p,n=>by
  have h1:=(pm as (aI x)).1
  unfold be
  split
  ·have:=rS t (bc as (aI x)).2 p (n++[(bc as (aI x)).1])
   simp only [List.length_append,List.length_cons,List.length_nil] at this ⊢
   omega
  ·have:=rS t (bc as (aI x)).2 (p++[(bc as (aI x)).1]) n
   simp only [List.length_append,List.length_cons,List.length_nil] at this ⊢
   omega
def lQ (l:List ac):Nat:=(l.map fun r=>r.Pats.length).sum
theorem lB (r:ac) (t:List ac):lQ (r :: t)=r.Pats.length+lQ t:=by simp [lQ]
def xF (rs:List ac):Prop:=rs.length≤1048576∧lQ rs≤1048576∧∀ r∈rs,∀ p∈r.Pats,p.Args.length≤1048576
theorem BX {B:Nat}:∀ {l:List ac},(∀ r∈l,r.Pats.length≤B)→lQ l≤l.length*B
 | [],_=>by simp [lQ]
 | p :: t,h=>by
  have h1:=BX (l:=t) fun q hq=>h q (by simp [hq])
  have h2:=h p (by simp)
  rw [lB,List.length_cons,Nat.succ_mul]; omega
theorem tS {c:Nat}:∀ (l:List ao) (i:Nat),go c i l=true→∀ p∈l,mX p=true
 | [],_,_,p,hp=>by cases hp
 | x :: t,i,h,p,hp=>by
  unfold go at h
  simp only [Bool.and_eq_true] at h
  rcases List.mem_cons.1 hp with rfl | hp
  ·exact h.1
  ·exact tS t _ h.2.2 p hp
theorem si {d:bh} (hd:qn d=true):xF d.Rules:=by
 have h1:d.Rules.length≤12:=by
  unfold qn at hd
  simp only [Bool.and_eq_true,decide_eq_true_eq] at hd
  exact hd.2.1.2
 have h2:∀ r∈d.Rules,iP r.Pats=true:=fun r hr=>by
  have:=qK hd r hr
  unfold lv at this
  simp only [Bool.and_eq_true] at this
  exact this.2.2.1
 have h3:∀ r∈d.Rules,r.Pats.length≤6:=fun r hr=>by
  have:=h2 r hr
  unfold iP at this
  simp only [Bool.and_eq_true,decide_eq_true_eq] at this
  exact this.1.2
 have h4:=BX h3
 refine ⟨by omega,by omega,fun r hr p hp=>?_⟩
 have:=h2 r hr
 unfold iP at this
 simp only [Bool.and_eq_true,decide_eq_true_eq] at this
 have h5:=tS _ _ this.2.2 p hp
 unfold mX at h5
 simp only [Bool.and_eq_true,decide_eq_true_eq] at h5
 omega
theorem wS:∀ (l:List ao),(l.filter fun x=>!x.Not).length+(l.filter fun x=>x.Not).length=l.length
 | []=>rfl
 | p :: t=>by
  have:=wS t
  simp only [List.filter_cons]
  cases p.Not <;> simp <;> omega
theorem oJ:∀ (l:List ao),(l.filter fun x=>!x.Not).length=ah l
 | []=>rfl
 | p :: t=>by
  have:=oJ t
  simp only [List.filter_cons,ah]
  cases p.Not <;> simp [this]
theorem sJ {c:Nat}:∀ (l:List ao) (i:Nat),go c i l=true→l.filter (fun x=>!x.Not)=l.take (c - i)
 | [],i,_=>by simp
 | p :: t,i,h=>by
  unfold go at h
  simp only [Bool.and_eq_true,beq_iff_eq] at h
  have h1:=h.2.1
  have h2:=sJ t (i+1) h.2.2
  by_cases hc:c≤i
  ·rw [decide_eq_true hc] at h1
   have e1:c - i=0:=by omega
   have e2:c - (i+1)=0:=by omega
   rw [e1,List.take_zero,List.filter_cons,h1]
   rw [e2,List.take_zero] at h2
   simpa using h2
  ·rw [decide_eq_false hc] at h1
   obtain ⟨k,hk⟩:∃ k,c - i=k+1:=⟨c - i - 1,by omega⟩
   have e2:c - (i+1)=k:=by omega
   rw [hk,List.take_succ_cons,List.filter_cons,h1,← e2,← h2]
   simp
theorem Cd {l:List ao} (h:iP l=true):l.filter (fun x=>!x.Not)=l.take (ah l):=by
 unfold iP at h
 simp only [Bool.and_eq_true] at h
 have:=sJ l 0 h.2.2
 simpa using this
def KK (n:bB):Prop:=(n.Alphas.length≤1048576∧∀ a∈n.Alphas,jp a)∧n.Chains.length≤1048576∧∀ c∈n.Chains,c.Pos.length≤1048576∧c.Neg.length≤1048576
theorem Ce {as:List aj} {a:aj} (hl:as.length≤4611686018427387900):idx (bc as a).2 (bc as a).1=some a:=by
 unfold bc
 split
 ·rename_i j h
  rw [List.findIdx?_eq_some_iff_getElem] at h
  obtain ⟨hj,h1,_⟩:=h
  simp only [ag hj]
  simpa using h1
 ·simp only
  rw [ag (by simp)]
  simp
theorem HH {α:Type} {xs ys:List α} {i:Int} {a:α} (h:idx xs i=some a):idx (xs++ys) i=some a:=by
 obtain ⟨h0,h1,e⟩:=a7 h
 unfold idx
 rw [if_pos h0,List.getElem?_append_left (by omega)]
 exact e
theorem C1 (as:List aj) (a:aj):∃ u,(bc as a).2=as++u:=by
 unfold bc
 split
 ·exact ⟨[],by simp⟩
 ·exact ⟨[a],rfl⟩
theorem zC {as:List aj} {a:aj} (h:as.Nodup):(bc as a).2.Nodup:=by
 unfold bc
 split
 ·exact h
 ·rename_i hn
  rw [List.findIdx?_eq_none_iff] at hn
  refine List.nodup_append.2 ⟨h,by simp,?_⟩
  intro x hx y hy hxy
  simp at hy; subst hy; subst hxy
  have:=hn x hx
  simp at this
def At (A:List aj):List Int→List ao→Prop
 | [],[]=>True
 | i :: l,p :: t=>idx A i=some (aI p)∧At A l t
 | _,_=>False
theorem At.ext {A u:List aj}:∀ {l:List Int} {t:List ao},At A l t→At (A++u) l t
 | [],[],_=>trivial
 | i :: l,p :: t,h=>⟨HH h.1,h.2.ext⟩
theorem At.snoc {A:List aj} {i:Int} {p:ao} (h2:idx A i=some (aI p)):∀ {l:List Int} {t:List ao},At A l t→At A (l++[i]) (t++[p])
 | [],[],_=>⟨h2,trivial⟩
 | i :: l,p :: t,h=>⟨h.1,h.2.snoc h2⟩
theorem At.len {A:List aj}:∀ {l:List Int} {t:List ao},At A l t→l.length=t.length
 | [],[],_=>rfl
 | i :: l,p :: t,h=>by simp [h.2.len]
theorem At.get {A:List aj}:∀ {l:List Int} {t:List ao},At A l t→∀ (k:Nat) (h1:k < l.length) (h2:k < t.length),idx A l[k]=some (aI t[k])
 | [],[],_,k,h1,_=>by simp at h1
 | i :: l,p :: t,h,0,_,_=>h.1
 | i :: l,p :: t,h,k+1,h1,h2=>h.2.get k (by simpa using h1) (by simpa using h2)
theorem sW:∀ (t:List ao) (as:List aj) (p n:List Int) (pp nn:List ao),as.length+t.length≤4194304→as.Nodup→At as p pp→At as n nn →
  (∃ u,(be as p n t).1=as++u)∧(be as p n t).1.Nodup∧At (be as p n t).1 (be as p n t).2.1 (pp++t.filter fun x=>!x.Not)∧At (be as p n t).1 (be as p n t).2.2 (nn++t.filter fun x=>x.Not)
 | [],as,p,n,pp,nn,_,hd,h1,h2=>⟨⟨[],by simp [be]⟩,hd,by simpa [be] using h1,by simpa [be] using h2⟩
 | x :: t,as,p,n,pp,nn,hl,hd,h1,h2=>by
  simp only [List.length_cons] at hl
  obtain ⟨u,hu⟩:=C1 as (aI x)
  have hpl:=(pm as (aI x)).1
  have hid:=Ce (as:=as) (a:=aI x) (by omega)
  have hnd:=zC (a:=aI x) hd
  have h1':At (bc as (aI x)).2 p pp:=by rw [hu]; exact h1.ext
  have h2':At (bc as (aI x)).2 n nn:=by rw [hu]; exact h2.ext
  unfold be
  cases hx:x.Not with
  | true=>
   simp only [if_true,List.filter_cons,hx,Bool.not_true,Bool.false_eq_true,if_false]
   obtain ⟨⟨w,e⟩,g1,g2,g3⟩:=sW t _ p (n++[(bc as (aI x)).1]) pp (nn++[x]) (by omega) hnd h1' (h2'.snoc hid)
   exact ⟨⟨u++w,by rw [e,hu,List.append_assoc]⟩,g1,g2,by simpa using g3⟩
  | false=>
   simp only [Bool.false_eq_true,if_false,List.filter_cons,hx,Bool.not_false,if_true]
   obtain ⟨⟨w,e⟩,g1,g2,g3⟩:=sW t _ (p++[(bc as (aI x)).1]) n (pp++[x]) nn (by omega) hnd (h1'.snoc hid) h2'
   exact ⟨⟨u++w,by rw [e,hu,List.append_assoc]⟩,g1,by simpa using g2,g3⟩
def Ats (A:List aj):List aC→List ac→Prop
 | [],[]=>True
 | c :: l,r :: t=>(At A c.Pos (r.Pats.filter fun x=>!x.Not)∧At A c.Neg (r.Pats.filter fun x=>x.Not))∧Ats A l t
 | _,_=>False
theorem Ats.ext {A u:List aj}:∀ {l:List aC} {t:List ac},Ats A l t→Ats (A++u) l t
 | [],[],_=>trivial
 | i :: l,p :: t,h=>⟨⟨h.1.1.ext,h.1.2.ext⟩,h.2.ext⟩
theorem Ats.snoc {A:List aj} {c:aC} {r:ac} (h2:At A c.Pos (r.Pats.filter fun x=>!x.Not)∧At A c.Neg (r.Pats.filter fun x=>x.Not)):∀ {l:List aC} {t:List ac},Ats A l t→Ats A (l++[c]) (t++[r])
 | [],[],_=>⟨h2,trivial⟩
 | i :: l,p :: t,h=>⟨h.1,h.2.snoc h2⟩
theorem Ats.len {A:List aj}:∀ {l:List aC} {t:List ac},Ats A l t→l.length=t.length
 | [],[],_=>rfl
 | i :: l,p :: t,h=>by simp [h.2.len]
theorem Ats.get {A:List aj}:∀ {l:List aC} {t:List ac},Ats A l t→∀ (k:Nat) (h1:k < l.length) (h2:k < t.length),At A l[k].Pos (t[k].Pats.filter fun x=>!x.Not)∧At A l[k].Neg (t[k].Pats.filter fun x=>x.Not)
 | [],[],_,k,h1,_=>by simp at h1
 | i :: l,p :: t,h,0,_,_=>h.1
 | i :: l,p :: t,h,k+1,h1,h2=>h.2.get k (by simpa using h1) (by simpa using h2)
theorem uJ:∀ (t:List ac) (as:List aj) (cs:List aC) (rr:List ac),as.length+lQ t≤4194304→as.Nodup→Ats as cs rr →
  (d7 as cs t).Alphas.Nodup∧Ats (d7 as cs t).Alphas (d7 as cs t).Chains (rr++t)∧(d7 as cs t).Alphas.length≤as.length+lQ t
 | [],as,cs,rr,_,hd,h=>⟨hd,by simpa [d7] using h,by simp [d7,lQ]⟩
 | r :: t,as,cs,rr,hl,hd,h=>by
  rw [lB] at hl
  obtain ⟨⟨u,e⟩,g1,g2,g3⟩:=sW r.Pats as [] [] [] [] (by omega) hd trivial trivial
  have h4:=(rS r.Pats as [] []).1
  have:=uJ t (be as [] [] r.Pats).1 (cs++[⟨(be as [] [] r.Pats).2.1,(be as [] [] r.Pats).2.2⟩]) (rr++[r]) (by omega) g1 (Ats.snoc ⟨by simpa using g2,by simpa using g3⟩ (by rw [e]; exact h.ext))
  unfold d7
  rw [lB]
  refine ⟨this.1,by simpa using this.2.1,by have:=this.2.2; omega⟩
theorem tx {d:bh} (h:xF d.Rules):(cm d).Alphas.Nodup∧Ats (cm d).Alphas (cm d).Chains d.Rules∧(cm d).Alphas.length≤lQ d.Rules:=by
 have h2:=h.2.1
 have:=uJ d.Rules [] [] [] (by simp; omega) (by simp) trivial
 unfold cm
 refine ⟨this.1,by simpa using this.2.1,by simpa using this.2.2⟩
theorem H9 {A:List aj} {l:List aC} {t:List ac} (h:Ats A l t):∀ c∈l,∃ r∈t,c.Pos.length+c.Neg.length=r.Pats.length:=by
 intro c hc
 obtain ⟨k,hk,rfl⟩:=List.getElem_of_mem hc
 have hk':k < t.length:=by rw [← h.len]; exact hk
 have:=h.get k hk hk'
 exact ⟨_,List.getElem_mem hk',by rw [this.1.len,this.2.len,wS]⟩
theorem tH {P:aj→Prop}:∀ (t:List ac) (as:List aj) (cs:List aC),(∀ x∈as,P x)→(∀ r∈t,∀ p∈r.Pats,P (aI p))→∀ x∈(d7 as cs t).Alphas,P x
 | [],as,cs,h,_=>h
 | r :: t,as,cs,h,ht=>by
  unfold d7
  exact tH t _ _ (rK r.Pats as [] [] h (ht r (by simp))) fun q hq=>ht q (by simp [hq])
theorem zN:∀ {l:List ac} {r:ac},r∈l→r.Pats.length≤lQ l
 | x :: t,r,h=>by
  rw [lB]
  rcases List.mem_cons.1 h with rfl | h
  ·omega
  ·have:=zN h; omega
theorem wP {d:bh} (h:xF d.Rules):KK (cm d):=by
 obtain ⟨h1,h2,h3⟩:=tx h
 obtain ⟨k1,k2,k3⟩:=h
 refine ⟨⟨by omega,tH d.Rules [] [] (by simp) fun r hr p hp=>tb (k3 r hr p hp)⟩,by rw [h2.len]; exact k1,fun c hc=>?_⟩
 obtain ⟨r,hr,e⟩:=H9 h2 c hc
 have:=zN hr
 omega
def neg (l:List ao):List ao:=l.filter fun p=>p.Not
def okB (xs:List an) (ps:List ao) (r:List Int):List aB × Bool:=cD xs (ps.take r.length) r []
def eY (xs:List an) (ns:List ao) (l:List aB):List Int:=ns.map fun p=>(we p l xs:Int)
def mA (xs:List an) (ps ns:List ao) (row:List Int) (id:Int):List aa:=
 if (okB xs ps (row++[id])).2=true then [⟨row++[id],if row.length+1=ps.length then eY xs ns (okB xs ps (row++[id])).1 else []⟩] else []
def ez (xs:List an) (ps ns:List ao) (row ids:List Int):List aa:=ids.flatMap (mA xs ps ns row)
def gp (xs:List an) (ps ns:List ao) (id:Int) (k:Nat) (B F:List aa) (A:List Int):List aa:=
 if k=0 then ez xs ps ns [] [id] else B.flatMap (fun t=>ez xs ps ns t.Ids [id])++F.flatMap (fun t=>ez xs ps ns t.Ids A)
def jE (xs:List an) (ps ns:List ao) (id:Int) (A:Nat→List Int):Nat→List ab→List aa→List aa→List ab
 | _,[],_,_=>[]
 | k,L :: Ls,B,F=>⟨L.Toks++gp xs ps ns id k B F (A k)⟩ :: jE xs ps ns id A (k+1) Ls L.Toks (gp xs ps ns id k B F (A k))
def jG (f:av) (l:List aB) (by_:Int):List ao→List Int→List Int
 | p :: ns,x :: h=>(if (bM p f l).2=true then IntKind.i64.wrap (x+by_) else x) :: jG f l by_ ns h
 | _,h=>h
def iD (xs:List an) (ps ns:List ao) (f:av) (by_:Int) (toks:List aa):List aa:=
 toks.map fun t=>if (okB xs ps t.Ids).2=true then ⟨t.Ids,jG f (okB xs ps t.Ids).1 by_ ns t.Hits⟩ else t
def ta (as:List aQ) (c:aC) (k:Nat):List Int:=match c.Pos[k]? with
 | some a=>(match idx as a with
  | some i=>i.L
  | none=>[])
 | none=>[]
def fE (xs:List an) (ps ns:List ao) (f:av) (by_:Int) (row:aF):aF:=match row.Levels[row.Levels.length - 1]? with
 | some L=>⟨row.Levels.set (row.Levels.length - 1) ⟨iD xs ps ns f by_ L.Toks⟩⟩
 | none=>row
def oD (xs:List an) (as:List aQ) (f:av) (id:Int) (r:ac) (c:aC) (row:aF):aF:=
 ⟨jE xs (pos r.Pats) (neg r.Pats) id (ta as c) 0 (fE xs (pos r.Pats) (neg r.Pats) f 1 row).Levels [] []⟩
def mO (g:ac→aC→aF→aF):List ac→List aC→List aF→List aF
 | r :: rs,c :: cs,w :: ws=>g r c w :: mO g rs cs ws
 | _,_,ws=>ws
def bS (f:av) (id:Int):List aj→List aQ→List aQ
 | a :: as,i :: is=>(if et a f=true then ⟨i.L++[id]⟩ else i) :: bS f id as is
 | _,is=>is
def AS (d:bh) (n:bB) (m:aJ) (s:ae) (id:Int):aJ:=
 ⟨bS (aH s.Items id).1 id n.Alphas m.Alphas,mO (oD s.Items (bS (aH s.Items id).1 id n.Alphas m.Alphas) (aH s.Items id).1 id) d.Rules n.Chains m.Rules⟩
theorem qv (xs:List an) (ps ns:List ao) (row:List Int):∀ (ids:List Int),(ez xs ps ns row ids).length≤ids.length
 | []=>by simp [ez]
 | v :: ids=>by
  have h1:=qv xs ps ns row ids
  unfold ez at h1 ⊢
  rw [List.flatMap_cons,List.length_append,List.length_cons]
  have h2:(mA xs ps ns row v).length≤1:=by unfold mA; split <;> simp
  omega
theorem qG (xs:List an) (ps ns:List ao) (ids:List Int):∀ (B:List aa),(B.flatMap fun t=>ez xs ps ns t.Ids ids).length≤B.length*ids.length
 | []=>by simp
 | t :: B=>by
  have h1:=qG xs ps ns ids B
  have h2:=qv xs ps ns t.Ids ids
  rw [List.flatMap_cons,List.length_append,List.length_cons,Nat.succ_mul]; omega
theorem uw {xs:List an} {ps ns:List ao} {row ids:List Int}:∀ t∈ez xs ps ns row ids,t.Ids.length=row.length+1∧t.Hits.length≤ns.length:=by
 intro t ht
 unfold ez at ht
 obtain ⟨v,_,h⟩:=List.mem_flatMap.1 ht
 unfold mA at h
 split at h
 ·simp only [List.mem_singleton] at h
  subst h
  refine ⟨by simp,?_⟩
  simp only
  split
  ·simp [eY]
  ·simp
 ·cases h
theorem ui (f:av) (l:List aB) (b:Int):∀ (ns:List ao) (h:List Int),(jG f l b ns h).length=h.length
 | p :: ns,x :: h=>by simp [jG,ui f l b ns h]
 | [],h=>by simp [jG]
 | p :: ns,[]=>by simp [jG]
theorem uh {xs:List an} {ps ns:List ao} {f:av} {b:Int} (toks:List aa):(iD xs ps ns f b toks).map (·.Ids)=toks.map (·.Ids):=by
 unfold iD
 rw [List.map_map]
 apply List.map_congr_left
 intro t _
 simp only [Function.comp]
 split <;> rfl
theorem tW {xs:List an} {ps ns:List ao} {f:av} {b:Int} (toks:List aa):(iD xs ps ns f b toks).length=toks.length:=by simp [iD]
theorem rk (xs:List an) (ps:List ao) (ids:List Int):(okB xs ps ids).1.length≤eC ps:=by
 have h1:=w5 (xs:=xs) (ps.take ids.length) ids []
 have h2:eC (ps.take ids.length)≤eC ps:=AC _ _
 unfold okB
 simp at h1
 omega
theorem CC {N:Nat} (hN:1099000000000≤N) (s:ae) (v:Int) (hl:s.Items.length≤1048576) (hx:∀ x∈s.Items,x.F.Fields.length≤1048576):lF N s v=some (aH s.Items v):=by
 unfold lF
 refine lp0 hN s.Items (by omega) (eK N s v) (fun t=>some (aH t v)) (fun n i x t h1 h2 h3 h4 h5 h6 h7=>?_) (fun n i h1 h2=>?_)
 ·have e:oq N x.F=some x.F:=by
   unfold oq
   rw [km (show x.F.Fields.length≤4294967296 by have:=hx x h2; omega)]; rfl
  simp only [eK,h5,if_true,h4,Option.bind_some,h6,h7,e,ux]
  by_cases h:x.Id=v <;> simp [h]
 ·simp only [eK,h2,Bool.false_eq_true,if_false]; rfl
structure SzS (r:ac) (s:ae):Prop where
 pl:r.Pats.length≤1048576
 sa:eC r.Pats≤1048576
 pa:∀ p∈r.Pats,p.Args.length≤1048576
 sl:s.Items.length≤1048576
 fl:∀ x∈s.Items,x.F.Fields.length≤1048576
 fp:pos r.Pats=r.Pats.take (ah r.Pats)
theorem B1 {N:Nat} (hN:1099000000000≤N) (r:ac) (s:ae) (hz:SzS r s) (ids:List Int) (hi:ids.length≤ah r.Pats) :
  ∃ l,gL N r s ids=some (l,(okB s.Items (pos r.Pats) ids).2)∧((okB s.Items (pos r.Pats) ids).2=true→l=(okB s.Items (pos r.Pats) ids).1)∧l.length≤1048576:=by
 have hpc:=fy r.Pats
 have hpl:=hz.pl
 unfold gL
 have lp:∀ (n i:Nat) (l:List aB),i≤ids.length→ids.length - i < n→l.length+eC (r.Pats.drop i)≤1048576 →
   ∃ q,dv N r s ids n l i=some (q,(cD s.Items ((r.Pats.take ids.length).drop i) (ids.drop i) l).2)∧((cD s.Items ((r.Pats.take ids.length).drop i) (ids.drop i) l).2=true→q=(cD s.Items ((r.Pats.take ids.length).drop i) (ids.drop i) l).1)∧q.length≤1048576:=by
  intro n
  induction n with
  | zero=>intro i _ _ h; omega
  | succ n ih=>
   intro i l h1 hn hl
   by_cases hlt:i < ids.length
   ·have c1:decide ((i:Int) < (ids.length:Int))=true:=decide_eq_true (by omega)
    have hlt':i < r.Pats.length:=by omega
    have hlt2:i < (r.Pats.take ids.length).length:=by rw [List.length_take]; omega
    rw [List.drop_eq_getElem_cons hlt'] at hl
    rw [gH] at hl
    have hml:=qY r.Pats[i] (aH s.Items ids[i]).1 l
    rw [List.drop_eq_getElem_cons hlt,List.drop_eq_getElem_cons hlt2,cD,List.getElem_take]
    simp only [dv,c1,if_true,ag hlt,Option.bind_some,CC hN s _ hz.sl hz.fl,jt,ag hlt']
    rw [show (⟨(aH s.Items ids[i]).1.Kind,(aH s.Items ids[i]).1.Fields⟩:av)=(aH s.Items ids[i]).1 from rfl,DX hN r.Pats[i] _ l (hz.pa _ (List.getElem_mem hlt')) (show l.length≤2147483648 by omega)]
    simp only [Option.bind_some,wr1 i (by omega)]
    cases (aH s.Items ids[i]).2 with
    | false=>exact ⟨l,by simp,by simp,by omega⟩
    | true=>
     cases hm:(bM r.Pats[i] (aH s.Items ids[i]).1 l).2 with
     | false=>exact ⟨l,by simp,by simp,by omega⟩
     | true=>
      simp only [Bool.not_true,Bool.false_eq_true,if_false,and_self,if_true,Option.bind_some]
      exact ih (i+1) _ (by omega) (by omega) (by omega)
   ·have c1:decide ((i:Int) < (ids.length:Int))=false:=decide_eq_false (by omega)
    simp only [dv,c1,Bool.false_eq_true,if_false]
    rw [List.drop_of_length_le (show (r.Pats.take ids.length).length≤i by rw [List.length_take]; omega),List.drop_of_length_le (show ids.length≤i by omega)]
    exact ⟨l,by simp [cD],by simp [cD],by omega⟩
 obtain ⟨q,h1,h2,h3⟩:=lp N 0 [] (by omega) (by omega) (by simpa using hz.sa)
 have e:(pos r.Pats).take ids.length=r.Pats.take ids.length:=by rw [hz.fp,List.take_take]; congr 1; omega
 unfold okB
 rw [e]
 simp only [List.drop_zero] at h1 h2
 exact ⟨q,h1,h2,h3⟩
def oF (ns:List ao) (f:av) (l:List aB):List Int:=ns.map fun p=>if (bM p f l).2=true then 1 else 0
theorem HK {N:Nat} (hN:1099000000000≤N) (r:ac) (f:av) (l:List aB) (hp:r.Pats.length≤1048576) (pa:∀ p∈r.Pats,p.Args.length≤1048576) (hl:l.length≤1048576):li N r f l=some (oF (neg r.Pats) f l):=by
 unfold li
 refine (lp' hN r.Pats (by omega) (fun n (u:List Int) i=>cH N r f l n u i) (fun t u=>some (u++oF (neg t) f l)) (fun u t=>u.length+t.length≤1048576) [] (by simpa using hp) (fun n u i p t g1 g2 g3 g4 g5 g6 gI gh=>?_) (fun n u i g1 g2 gI=>?_)).trans (by simp)
 ·simp only [List.length_cons] at gI
  have hneg:neg (p :: t)=if p.Not then p :: neg t else neg t:=by unfold neg; rw [List.filter_cons]
  simp only [cH,g5,if_true,g4,Option.bind_some,DX hN p f l (pa p g2) (show l.length≤2147483648 by omega)]
  rw [hneg]
  cases hn:p.Not with
  | false=>simp only [Bool.false_eq_true,if_false,g6]; exact gh u (by omega)
  | true=>
   simp only [if_true]
   cases hm:(bM p f l).2 with
   | true=>
    simp only [if_true,fK,bQ (show u.length+[(1:Int)].length≤4294967296 by simp; omega),Option.bind_some,g6]
    rw [gh _ (by simp; omega)]; simp [oF,hm]
   | false=>
    simp only [Bool.false_eq_true,if_false,fK,bQ (show u.length+[(0:Int)].length≤4294967296 by simp; omega),Option.bind_some,g6]
    rw [gh _ (by simp; omega)]; simp [oF,hm]
 ·simp only [cH,g2,Bool.false_eq_true,if_false]; simp [neg,oF]
def iZ (xs:List an) (ps:List ao) (row:List Int) (id:Int):List aa:=if (okB xs ps (row++[id])).2=true then [⟨row++[id],[]⟩] else []
theorem Df {N:Nat} (hN:1099000000000≤N) (r:ac) (s:ae) (hz:SzS r s) (out:List aa) (row:List Int) (id:Int) (hr:row.length+1≤ah r.Pats) (ho:out.length+1≤4294967296) :
  iN N out r s row id=some (out++iZ s.Items (pos r.Pats) row id):=by
 have hpc:=fy r.Pats
 have hpl:=hz.pl
 obtain ⟨l,h1,h2,h3⟩:=B1 hN r s hz (row++[id]) (by simp; omega)
 unfold iN iZ
 simp only [km (show row.length≤4294967296 by omega),Option.bind_some,bQ (show row.length+[id].length≤4294967296 by simp; omega),h1]
 cases (okB s.Items (pos r.Pats) (row++[id])).2 with
 | false=>simp
 | true=>simp [bQ (show out.length+[(⟨row++[id],[]⟩:aa)].length≤4294967296 by simpa using ho)]
def EH:List Int→List Int→List Int
 | x :: a,y :: b=>(x+y) :: EH a b
 | a,_=>a
theorem EM (ns:List ao) (l:List aB) (xs:List an) (x:an):EH (eY xs ns l) (oF ns x.F l)=eY (xs++[x]) ns l:=by
 induction ns with
 | nil=>rfl
 | cons p ns ih=>
  unfold eY oF at ih ⊢
  simp only [List.map_cons,EH,ih]
  congr 1
  unfold we
  rw [List.countP_append]
  cases hm:(bM p x.F l).2 with
  | true=>simp [hm]
  | false=>simp [hm]
theorem Ad {N:Nat} (s2:Int) (K:List Int→Int→Option aa) (x5:List Int) (hx:x5.length≤1048576) (h01:∀ y∈x5,0≤y∧y≤1):∀ (b:List Int) (n:Nat) (db da a:List Int),b.length < n→x5=db++b→da.length=db.length→a.length=b.length→(∀ x∈a,0≤x∧x≤1048576) →
  dy N s2 K x5 n (da++a) (db.length:Int)=K (da++EH a b) (IntKind.i64.wrap (s2+1))
 | [],n,db,da,a,hn,h1,h2,h3,h4=>by
  obtain ⟨n,rfl⟩:∃ m,n=m+1:=⟨n - 1,by simp at hn; omega⟩
  have c1:decide ((db.length:Int) < (x5.length:Int))=false:=decide_eq_false (by rw [h1]; simp)
  have:a=[]:=List.length_eq_zero_iff.1 (by simpa using h3)
  subst this
  simp only [dy,c1,Bool.false_eq_true,if_false,EH]
 | y :: b,n,db,da,[],hn,h1,h2,h3,h4=>by simp at h3
 | y :: b,n,db,da,x :: a,hn,h1,h2,h3,h4=>by
  obtain ⟨n,rfl⟩:∃ m,n=m+1:=⟨n - 1,by omega⟩
  simp only [List.length_cons] at hn h3
  have hl:x5.length=db.length+(b.length+1):=by rw [h1]; simp
  have c1:decide ((db.length:Int) < (x5.length:Int))=true:=decide_eq_true (by omega)
  have e1:idx x5 (db.length:Int)=some y:=by rw [h1,kK]; simp
  have e2:idx (da++x :: a) (db.length:Int)=some x:=by rw [← h2,kK]; simp
  have hx1:=h4 x (by simp)
  have hy1:=h01 y (by rw [h1]; simp)
  have e3:IntKind.i64.wrap (x+y)=x+y:=wr (by omega) (by omega)
  have e4:(da++x :: a).set ((db.length:Int)).toNat (x+y)=(da++[x+y])++a:=by
   rw [Int.toNat_natCast,← h2,List.set_append_right _ _ (Nat.le_refl _),Nat.sub_self,List.set_cons_zero,List.append_assoc]; rfl
  simp only [dy,c1,if_true,e1,e2,Option.bind_some,e3,e4,wr1 db.length (by omega)]
  have:=Ad (N:=N) s2 K x5 hx h01 b n (db++[y]) (da++[x+y]) a (by omega) (by rw [h1]; simp) (by simp [h2]) (by omega) (fun z hz=>h4 z (by simp [hz]))
  simp only [List.length_append,List.length_cons,List.length_nil,Nat.zero_add] at this
  rw [this,EH]
  simp
theorem Fo {N:Nat} (hN:1099000000000≤N) (r:ac) (s:ae) (hz:SzS r s) (t:aa) (ht:t.Ids.length≤ah r.Pats) (hok:(okB s.Items (pos r.Pats) t.Ids).2=true) :
  kJ N r s t=some ⟨t.Ids,eY s.Items (neg r.Pats) (okB s.Items (pos r.Pats) t.Ids).1⟩:=by
 have hpc:=fy r.Pats
 have hpl:=hz.pl
 have hsl:=hz.sl
 obtain ⟨l,h1,h2,h3⟩:=B1 hN r s hz t.Ids ht
 obtain rfl:=h2 hok
 have hn1:=wS r.Pats
 have hn2:=oJ r.Pats
 have hnl:(neg r.Pats).length=r.Pats.length - ah r.Pats:=by unfold neg; omega
 have ew:IntKind.i64.wrap ((r.Pats.length:Int) - (ah r.Pats:Int))=((r.Pats.length - ah r.Pats:Nat):Int):=by
  rw [show ((r.Pats.length:Int) - (ah r.Pats:Int))=((r.Pats.length - ah r.Pats:Nat):Int) by omega]
  exact wr (by omega) (by omega)
 unfold kJ
 rw [h1,Option.bind_some,DL hN r hz.pl,Option.bind_some,ew,j0 _ (by omega),Option.bind_some]
 have e0:List.replicate (r.Pats.length - ah r.Pats) (0:Int)=eY [] (neg r.Pats) (okB s.Items (pos r.Pats) t.Ids).1:=by
  rw [← hnl]
  unfold eY we
  apply List.ext_getElem
  ·simp
  ·intro i h1 h2; simp
 rw [e0]
 have lp:∀ (zs:List an) (n:Nat) (dz:List an),zs.length < n→s.Items=dz++zs →
   cw N r s t ((okB s.Items (pos r.Pats) t.Ids).1,(okB s.Items (pos r.Pats) t.Ids).2) n (eY dz (neg r.Pats) (okB s.Items (pos r.Pats) t.Ids).1) (dz.length:Int)=some ⟨t.Ids,eY s.Items (neg r.Pats) (okB s.Items (pos r.Pats) t.Ids).1⟩:=by
  intro zs
  induction zs with
  | nil=>
   intro n dz hn he
   obtain ⟨n,rfl⟩:∃ m,n=m+1:=⟨n - 1,by simp at hn; omega⟩
   have he':s.Items=dz:=by simpa using he
   have c1:decide ((dz.length:Int) < (s.Items.length:Int))=false:=decide_eq_false (by rw [he']; simp)
   simp only [cw,c1,Bool.false_eq_true,if_false]
   rw [← he']
  | cons z zs ih=>
   intro n dz hn he
   obtain ⟨n,rfl⟩:∃ m,n=m+1:=⟨n - 1,by omega⟩
   simp only [List.length_cons] at hn
   have hl:s.Items.length=dz.length+(zs.length+1):=by rw [he]; simp
   have c1:decide ((dz.length:Int) < (s.Items.length:Int))=true:=decide_eq_true (by omega)
   have e1:idx s.Items (dz.length:Int)=some z:=by rw [he,kK]; simp
   simp only [cw,c1,if_true,e1,Option.bind_some,HK hN r z.F _ hz.pl hz.pa h3]
   have h4:=Ad (N:=N) (dz.length:Int) (cw N r s t ((okB s.Items (pos r.Pats) t.Ids).1,(okB s.Items (pos r.Pats) t.Ids).2) n) (oF (neg r.Pats) z.F (okB s.Items (pos r.Pats) t.Ids).1) (by simp [oF]; omega)
    (fun y hy=>by unfold oF at hy; obtain ⟨p,_,rfl⟩:=List.mem_map.1 hy; split <;> omega) (oF (neg r.Pats) z.F (okB s.Items (pos r.Pats) t.Ids).1) N [] [] (eY dz (neg r.Pats) (okB s.Items (pos r.Pats) t.Ids).1) (by simp [oF]; omega) rfl rfl (by simp [oF,eY])
    (fun y hy=>by unfold eY at hy; obtain ⟨p,_,rfl⟩:=List.mem_map.1 hy; have:=Bt p (okB s.Items (pos r.Pats) t.Ids).1 dz; omega)
   simp only [List.nil_append,List.length_nil,Int.natCast_zero] at h4
   have h4':dy N (dz.length:Int) (cw N r s t ((okB s.Items (pos r.Pats) t.Ids).1,(okB s.Items (pos r.Pats) t.Ids).2) n) (oF (neg r.Pats) z.F (okB s.Items (pos r.Pats) t.Ids).1) N (eY dz (neg r.Pats) (okB s.Items (pos r.Pats) t.Ids).1) 0=_:=h4
   rw [h4',EM,wr1 dz.length (by omega)]
   have:=ih n (dz++[z]) (by omega) (by rw [he]; simp)
   simp only [List.length_append,List.length_cons,List.length_nil,Nat.zero_add] at this
   exact this
 have:=lp s.Items N [] (by omega) rfl
 simpa using this
theorem JH {N:Nat} (hN:1099000000000≤N) (p:List aB) (n:ByteArray) (hl:p.length≤4294967296):nX N p n=some (tX p n):=by
 unfold nX
 have:∀ (k i:Nat),i≤p.length→p.length - i < k→fM N p n k i=some (tX (p.drop i) n):=by
  intro k
  induction k with
  | zero=>intro i _ h; omega
  | succ k ih=>
   intro i hi hk
   simp only [fM]
   by_cases hlt:i < p.length
   ·have c1:decide ((i:Int) < (p.length:Int))=true:=decide_eq_true (by omega)
    rw [List.drop_eq_getElem_cons hlt,zP]
    simp only [c1,if_true,ag hlt,Option.bind_some,wr1 i (by omega),ih (i+1) (by omega) (by omega)]
    cases seq p[i].Name n <;> rfl
   ·have c1:decide ((i:Int) < (p.length:Int))=false:=decide_eq_false (by omega)
    simp only [c1,Bool.false_eq_true,if_false]
    rw [List.drop_of_length_le (by omega)]; rfl
 exact this N 0 (by omega) (by omega)
theorem CE {N:Nat} (hN:1099000000000≤N) (p:ao) (f:av) (b:List aB) (he:p.Args.length=f.Fields.length) (hl:p.Args.length≤1048576) (hb:b.length≤2147483648):∀ (n i:Nat) (s:List aB),i≤p.Args.length→p.Args.length - i < n→s.length≤2147483648+i →
  cL N p f b n s i=some (cV b (p.Args.drop i) (f.Fields.drop i) s):=by
 intro n
 induction n with
 | zero=>intro i s _ h; omega
 | succ n ih=>
  intro i s hi hn hs
  simp only [cL]
  by_cases hlt:i < p.Args.length
  ·have c1:decide ((i:Int) < (p.Args.length:Int))=true:=decide_eq_true (by omega)
   have hlt':i < f.Fields.length:=by omega
   rw [List.drop_eq_getElem_cons hlt,List.drop_eq_getElem_cons hlt',cV]
   simp only [c1,if_true,ag hlt,ag hlt',Option.bind_some,JH hN s _ (show s.length≤4294967296 by omega),bg,km (show b.length≤4294967296 by omega),bQ (show s.length+[(⟨p.Args[i].S,f.Fields[i]⟩:aB)].length≤4294967296 by simp; omega),wr1 i (by omega),n9,orS]
   have ih1:=ih (i+1) s (by omega) (by omega) (by omega)
   have ih2:=ih (i+1) (s++[⟨p.Args[i].S,f.Fields[i]⟩]) (by omega) (by omega) (by simp; omega)
   by_cases k2:p.Args[i].K=2
   ·have k1 : ¬ p.Args[i].K=1:=by omega
    simp only [k2,k1,decide_true,decide_false,if_true,if_false,Bool.true_and,Bool.false_and,Bool.or_false,Bool.false_eq_true,Option.bind_some,show ¬ (2:Int)=1 by omega]
    cases bb p.Args[i].V f.Fields[i] with
    | true=>simpa using ih1
    | false=>simp
   ·by_cases k1:p.Args[i].K=1
    ·simp only [k1,decide_true,decide_false,if_true,if_false,Bool.true_and,Bool.false_and,Bool.false_or,Bool.false_eq_true,Option.bind_some,show ¬ (1:Int)=2 by omega]
     cases (tX s p.Args[i].S).2 with
     | true=>
      simp only [if_true,Bool.not_true,Bool.true_and,Bool.false_eq_true,if_false]
      cases bb (tX s p.Args[i].S).1 f.Fields[i] with
      | true=>simpa using ih1
      | false=>simp
     | false=>simpa using ih2
    ·simp only [k1,k2,decide_false,if_false,Bool.false_and,Bool.false_or,Bool.or_false,Bool.false_eq_true,Option.bind_some]
     simpa using ih1
  ·have c1:decide ((i:Int) < (p.Args.length:Int))=false:=decide_eq_false (by omega)
   simp only [c1,Bool.false_eq_true,if_false]
   rw [List.drop_of_length_le (by omega)]
   rfl
theorem EF (a b:ByteArray):seq a b=seq b a:=by rw [dB,dB]; simp [eq_comm]
theorem Au {N:Nat} (hN:1099000000000≤N) (p:ao) (f:av) (b:List aB) (hl:p.Args.length≤1048576) (hb:b.length≤2147483648):gB N p f b=some (bM p f b):=by
 unfold gB bM bg
 rw [km (by omega),EF f.Kind p.Kind]
 simp only [Option.bind_some,orS]
 cases hk:seq p.Kind f.Kind with
 | false=>simp
 | true=>
  by_cases he:p.Args.length=f.Fields.length
  ·have he':decide ((f.Fields.length:Int)=(p.Args.length:Int))=true:=decide_eq_true (by omega)
   have:=(CE hN p f b he hl hb N 0 b (by omega) (by omega) (by omega))
   simp only [he',he,Bool.not_true,Bool.or_false,Bool.false_eq_true,if_false,true_and,if_true]
   simpa using this
  ·have he':decide ((f.Fields.length:Int)=(p.Args.length:Int))=false:=decide_eq_false (by omega)
   simp [he',he]
theorem vM {N:Nat} (hN:1099000000000≤N) (s:ae) (v:Int) (hl:s.Items.length≤1048576) (hx:∀ x∈s.Items,x.F.Fields.length≤1048576):jy N s v=some (aH s.Items v):=by
 unfold jy
 refine lp0 hN s.Items (by omega) (eH N s v) (fun t=>some (aH t v)) (fun n i x t h1 h2 h3 h4 h5 h6 h7=>?_) (fun n i h1 h2=>?_)
 ·have e:kG N x.F=some x.F:=by
   unfold kG eo
   rw [km (show x.F.Fields.length≤4294967296 by have:=hx x h2; omega)]; rfl
  simp only [eH,h5,if_true,h4,Option.bind_some,h6,h7,e,ux]
  by_cases h:x.Id=v <;> simp [h]
 ·simp only [eH,h2,Bool.false_eq_true,if_false]; rfl
theorem Cj {N:Nat} (hN:1099000000000≤N) (ps:List ao) (s:ae) (ids:List Int) (ha:eC ps≤1048576) (hp:∀ p∈ps,p.Args.length≤1048576) (hs:s.Items.length≤1048576) (hx:∀ x∈s.Items,x.F.Fields.length≤1048576) (hi:ids.length≤1048576) (he:ids.length≤ps.length) :
  jN N ps s ids=some (cD s.Items (ps.take ids.length) ids []):=by
 unfold jN
 have lp:∀ (n i:Nat) (l:List aB),i≤ids.length→ids.length - i < n→l.length+eC (ps.drop i)≤1048576→f9 N ps s ids n l i=some (cD s.Items ((ps.take ids.length).drop i) (ids.drop i) l):=by
  intro n
  induction n with
  | zero=>intro i _ _ h; omega
  | succ n ih=>
   intro i l h1 hn hl
   by_cases hlt:i < ids.length
   ·have c1:decide ((i:Int) < (ids.length:Int))=true:=decide_eq_true (by omega)
    have hlt':i < ps.length:=by omega
    have hlt2:i < (ps.take ids.length).length:=by rw [List.length_take]; omega
    rw [List.drop_eq_getElem_cons hlt'] at hl
    rw [gH] at hl
    have hml:=qY ps[i] (aH s.Items ids[i]).1 l
    rw [List.drop_eq_getElem_cons hlt,List.drop_eq_getElem_cons hlt2,cD,List.getElem_take]
    simp only [f9,c1,if_true,ag hlt,ag hlt',Option.bind_some,vM hN s _ hs hx,Au hN ps[i] _ l (hp _ (List.getElem_mem hlt')) (show l.length≤2147483648 by omega),wr1 i (by omega)]
    cases (aH s.Items ids[i]).2 with
    | false=>simp
    | true=>
     cases (bM ps[i] (aH s.Items ids[i]).1 l).2 with
     | false=>simp
     | true=>
      simp only [Bool.not_true,Bool.false_eq_true,if_false,and_self,if_true]
      exact ih (i+1) _ (by omega) (by omega) (by omega)
   ·have c1:decide ((i:Int) < (ids.length:Int))=false:=decide_eq_false (by omega)
    simp only [f9,c1,Bool.false_eq_true,if_false]
    rw [List.drop_of_length_le (show (ps.take ids.length).length≤i by rw [List.length_take]; omega),List.drop_of_length_le (show ids.length≤i by omega)]; rfl
 have:=lp N 0 [] (by omega) (by omega) (by simpa using ha)
 simpa using this
theorem Jk {N:Nat} (hN:1099000000000≤N) (p:ao) (s:ae) (l:List aB) (hp:p.Args.length≤1048576) (hs:s.Items.length≤1048576) (hb:l.length≤2147483648):od N p s l=some (we p l s.Items:Int):=by
 unfold od
 have:=lp' hN s.Items (by omega) (dK N p s l) (fun t k=>some (k+(we p l t:Int))) (fun k t=>0≤k∧k+t.length≤1048576) (0:Int) (by simp; omega) (fun n k i x t h1 h2 h3 h4 h5 h6 hI ih=>by
  simp only [List.length_cons] at hI
  simp only [dK,h5,if_true,h4,Option.bind_some,Au hN p x.F l hp hb,h6]
  unfold we at ih ⊢
  rw [List.countP_cons]
  cases (bM p x.F l).2 with
  | true=>
   rw [wr (n:=k+1) (by omega) (by omega)]
   simp only [if_true,ih (k+1) (by omega)]; congr 1; omega
  | false=>simpa using ih k (by omega)) (fun n k i h1 h2 hI=>by simp only [dK,h2,Bool.false_eq_true,if_false,we]; simp)
 simpa using this
structure SzG (g:bZ):Prop where
 pl:g.pos.length≤1048576
 sa:eC g.pos≤1048576
 pa:∀ p∈g.pos,p.Args.length≤1048576
 nl:g.neg.length≤1048576
 na:∀ p∈g.neg,p.Args.length≤1048576
 sl:g.s.Items.length≤1048576
 fl:∀ x∈g.s.Items,x.F.Fields.length≤1048576
theorem EO {N:Nat} (hN:1099000000000≤N) (g:bZ) (hz:SzG g) (s1:List aa) (s2:Int) (K:List aa→Int→Option (List aa)) (x3:List Int) (x4:List aB × Bool) (hb:x4.1.length≤2147483648) :
  bN N g s1 s2 K x3 x4 N [] 0=bL N s1 s2 K x3 (eY g.s.Items g.neg x4.1):=by
 have hnl:=hz.nl
 refine (lp' hN g.neg (by omega) (fun n (u:List Int) i=>bN N g s1 s2 K x3 x4 n u i) (fun t u=>bL N s1 s2 K x3 (u++eY g.s.Items t x4.1)) (fun u t=>u.length+t.length≤1048576) [] (by simpa using hz.nl) (fun n u i p t g1 g2 g3 g4 g5 g6 gI gh=>?_) (fun n u i g1 g2 gI=>?_)).trans (by simp)
 ·simp only [List.length_cons] at gI
  simp only [bN,g5,if_true,g4,Option.bind_some,Jk hN p g.s x4.1 (hz.na p g2) hz.sl hb,bQ (show u.length+[((we p x4.1 g.s.Items:Nat):Int)].length≤4294967296 by simp; omega),g6]
  rw [gh _ (by simp; omega)]
  simp [eY]
 ·simp only [bN,g2,Bool.false_eq_true,if_false]; simp [eY]
theorem wF {N:Nat} (hN:1099000000000≤N) (g:bZ) (hz:SzG g) (row ids:List Int) (hr:row.length+1≤g.pos.length) (hi:ids.length≤4294967296) :
  d6 N g row ids=some (ez g.s.Items g.pos g.neg row ids):=by
 have hpl:=hz.pl
 unfold d6
 refine (lp' hN ids hi (fun n (u:List aa) i=>aZ N g row ids n u i) (fun t u=>some (u++ez g.s.Items g.pos g.neg row t)) (fun u t=>u.length+t.length≤4294967296) [] (by simpa using hi) (fun n u i v t g1 g2 g3 g4 g5 g6 gI gh=>?_) (fun n u i g1 g2 gI=>?_)).trans (by simp)
 ·simp only [List.length_cons] at gI
  have hrow:(row++[v]).length=row.length+1:=by simp
  have hbl:=rk g.s.Items g.pos (row++[v])
  have hsa:=hz.sa
  have e0:cD g.s.Items (g.pos.take (row++[v]).length) (row++[v]) []=okB g.s.Items g.pos (row++[v]):=rfl
  simp only [aZ,g5,if_true,g4,Option.bind_some,fT,km (show row.length≤4294967296 by omega),bQ (show row.length+[v].length≤4294967296 by simp; omega),
   Cj hN g.pos g.s (row++[v]) hz.sa hz.pa hz.sl hz.fl (by omega) (by omega),e0,ez,List.flatMap_cons]
  have hlong:(t.flatMap fun b=>mA g.s.Items g.pos g.neg row b)=ez g.s.Items g.pos g.neg row t:=rfl
  cases hok:(okB g.s.Items g.pos (row++[v])).2 with
  | false=>
   have e1:mA g.s.Items g.pos g.neg row v=[]:=by unfold mA; rw [hok]; simp
   simp only [Bool.not_false,if_true,g6,e1,List.nil_append]
   exact gh u (by omega)
  | true=>
   simp only [Bool.not_true,Bool.false_eq_true,if_false]
   by_cases hl:row.length+1=g.pos.length
   ·have c1:decide (((row++[v]).length:Int)=(g.pos.length:Int))=true:=decide_eq_true (by rw [hrow]; omega)
    have e1:mA g.s.Items g.pos g.neg row v=[⟨row++[v],eY g.s.Items g.neg (okB g.s.Items g.pos (row++[v])).1⟩]:=by unfold mA; rw [hok,if_pos rfl,if_pos hl]
    simp only [c1,if_true,EO hN g hz u _ _ _ _ (show (okB g.s.Items g.pos (row++[v])).1.length≤2147483648 by omega),bL,bQ (show u.length+[(⟨row++[v],eY g.s.Items g.neg (okB g.s.Items g.pos (row++[v])).1⟩:aa)].length≤4294967296 by simp; omega),Option.bind_some,g6,e1]
    rw [gh _ (by simp; omega),List.append_assoc]; rfl
   ·have c1:decide (((row++[v]).length:Int)=(g.pos.length:Int))=false:=decide_eq_false (by rw [hrow]; omega)
    have e1:mA g.s.Items g.pos g.neg row v=[⟨row++[v],[]⟩]:=by unfold mA; rw [hok,if_pos rfl,if_neg hl]
    simp only [c1,Bool.false_eq_true,if_false,bL,bQ (show u.length+[(⟨row++[v],[]⟩:aa)].length≤4294967296 by simp; omega),Option.bind_some,g6,e1]
    rw [gh _ (by simp; omega),List.append_assoc]; rfl
 ·simp only [aZ,g2,Bool.false_eq_true,if_false]; simp [ez]
def AI (A:Nat→Nat):Nat→List Nat→Nat→Nat→Prop
 | _,[],_,_=>True
 | k,l :: ls,b,f=>(if k=0 then 1 else b+f*A k)+l≤4294967296∧AI A (k+1) ls l (if k=0 then 1 else b+f*A k)
theorem uf {A:Nat→Nat}:∀ {ls:List Nat} {k b f b' f':Nat},AI A k ls b f→b'≤b→f'≤f→AI A k ls b' f'
 | [],_,_,_,_,_,_,_,_=>trivial
 | l :: ls,k,b,f,b',f',h,hb,hf=>by
  have hm:(if k=0 then 1 else b'+f'*A k)≤(if k=0 then 1 else b+f*A k):=by
   split
   ·exact Nat.le_refl _
   ·exact Nat.add_le_add hb (Nat.mul_le_mul_right _ hf)
  exact ⟨Nat.le_trans (Nat.add_le_add_right hm l) h.1,uf h.2 (Nat.le_refl _) hm⟩
theorem uk (xs:List an) (ps ns:List ao) (id:Int) (k:Nat) (B F:List aa) (A:List Int):(gp xs ps ns id k B F A).length≤(if k=0 then 1 else B.length+F.length*A.length):=by
 unfold gp
 split
 ·exact qv xs ps ns [] [id]
 ·have h1:=qG xs ps ns [id] B
  have h2:=qG xs ps ns A F
  simp only [List.length_append,List.length_cons,List.length_nil,Nat.zero_add,Nat.mul_one] at h1 h2 ⊢
  omega
theorem Ai {xs:List an} {ps ns:List ao} {id:Int} {k:Nat} {B F:List aa} {A:List Int} (hB:∀ t∈B,t.Ids.length=k) (hF:∀ t∈F,t.Ids.length=k):∀ t∈gp xs ps ns id k B F A,t.Ids.length=k+1:=by
 intro t ht
 unfold gp at ht
 split at ht
 ·rename_i hk
  rw [(uw t ht).1,hk]; rfl
 ·rcases List.mem_append.1 ht with h | h
  ·obtain ⟨u,hu,h⟩:=List.mem_flatMap.1 h
   rw [(uw t h).1,hB u hu]
  ·obtain ⟨u,hu,h⟩:=List.mem_flatMap.1 h
   rw [(uw t h).1,hF u hu]
theorem Ha {N:Nat} (hN:1099000000000≤N) (g:bZ) (hz:SzG g) (s1:List ab) (F:List aa) (k:Nat) (K:List ab→List aa→List aa→Int→Option (List ab)) (a:Int) (A:aQ) (ha:idx g.chain.Pos (k:Int)=some a) (hA:idx g.alphas a=some A) (hk:k+1≤g.pos.length)
  (hF:∀ t∈F,t.Ids.length=k) (u0:List aa) (hl:u0.length+F.length*A.L.length≤4294967296) (hAl:A.L.length≤4294967296) (hFl:F.length≤4294967296) :
  co N g s1 F (k:Int) K N u0 0=bF N s1 (k:Int) K (u0++F.flatMap fun t=>ez g.s.Items g.pos g.neg t.Ids A.L):=by
 refine lp' hN F hFl (fun n (u:List aa) i=>co N g s1 F (k:Int) K n u i) (fun t u=>bF N s1 (k:Int) K (u++t.flatMap fun t=>ez g.s.Items g.pos g.neg t.Ids A.L)) (fun u t=>u.length+t.length*A.L.length≤4294967296) u0 hl (fun n u i v t g1 g2 g3 g4 g5 g6 gI gh=>?_) (fun n u i g1 g2 gI=>?_)
 ·rw [List.length_cons,Nat.succ_mul] at gI
  have h1:=qv g.s.Items g.pos g.neg v.Ids A.L
  simp only [co,g5,if_true,g4,Option.bind_some,ha,hA,wF hN g hz v.Ids A.L (by rw [hF v g2]; exact hk) hAl,bQ (show u.length+(ez g.s.Items g.pos g.neg v.Ids A.L).length≤4294967296 by omega),g6]
  rw [gh _ (by rw [List.length_append]; omega),List.flatMap_cons,List.append_assoc]
 ·simp only [co,g2,Bool.false_eq_true,if_false]; simp
theorem Hu {N:Nat} (hN:1099000000000≤N) (g:bZ) (hz:SzG g) (s1:List ab) (B F:List aa) (k:Nat) (K:List ab→List aa→List aa→Int→Option (List ab)) (a:Int) (A:aQ) (ha:idx g.chain.Pos (k:Int)=some a) (hA:idx g.alphas a=some A) (hk:k+1≤g.pos.length)
  (hB:∀ t∈B,t.Ids.length=k) (hF:∀ t∈F,t.Ids.length=k) (hl:B.length+F.length*A.L.length≤4294967296) (hAl:A.L.length≤4294967296) (hFl:F.length≤4294967296) :
  ci N g s1 B F (k:Int) K N [] 0=bF N s1 (k:Int) K ((B.flatMap fun t=>ez g.s.Items g.pos g.neg t.Ids [g.id])++F.flatMap fun t=>ez g.s.Items g.pos g.neg t.Ids A.L):=by
 refine (lp' hN B (by omega) (fun n (u:List aa) i=>ci N g s1 B F (k:Int) K n u i) (fun t u=>bF N s1 (k:Int) K (u++(t.flatMap fun t=>ez g.s.Items g.pos g.neg t.Ids [g.id])++F.flatMap fun t=>ez g.s.Items g.pos g.neg t.Ids A.L)) (fun u t=>u.length+t.length+F.length*A.L.length≤4294967296) [] (by simpa using hl) (fun n u i v t g1 g2 g3 g4 g5 g6 gI gh=>?_) (fun n u i g1 g2 gI=>?_)).trans (by simp)
 ·rw [List.length_cons] at gI
  have h1:=qv g.s.Items g.pos g.neg v.Ids [g.id]
  simp only [List.length_cons,List.length_nil,Nat.zero_add] at h1
  simp only [ci,g5,if_true,g4,Option.bind_some,wF hN g hz v.Ids [g.id] (by rw [hB v g2]; exact hk) (by simp),bQ (show u.length+(ez g.s.Items g.pos g.neg v.Ids [g.id]).length≤4294967296 by omega),g6]
  rw [gh _ (by rw [List.length_append]; omega),List.flatMap_cons]
  simp only [List.append_assoc]
 ·simp only [ci,g2,Bool.false_eq_true,if_false]
  simp only [List.length_nil,Nat.add_zero] at gI
  rw [Ha hN g hz s1 F k K a A ha hA hk hF u gI hAl hFl]; simp
theorem DP {N:Nat} (hN:1099000000000≤N) (g:bZ) (hz:SzG g) (p1:List ab) (A:Nat→List Int) (hp:p1.length≤g.pos.length) (hA:∀ k,k < p1.length→∃ a i,idx g.chain.Pos (k:Int)=some a∧idx g.alphas a=some i∧i.L=A k) (hAl:∀ k,(A k).length≤4294967296) :
  ∀ (rest:List ab) (n:Nat) (done:List ab) (B F:List aa),rest.length < n→done.length+rest.length=p1.length→(∀ t∈B,t.Ids.length=done.length)→(∀ t∈F,t.Ids.length=done.length)→(∀ i L,rest[i]?=some L→∀ t∈L.Toks,t.Ids.length=done.length+1+i) →
   F.length≤4294967296→AI (fun k=>(A k).length) done.length (rest.map (·.Toks.length)) B.length F.length→bf N g p1 n (done++rest) B F (done.length:Int)=some (done++jE g.s.Items g.pos g.neg g.id A done.length rest B F)
 | [],n,done,B,F,hn,hd,hB,hF,hL,hFl,hf=>by
  obtain ⟨n,rfl⟩:∃ m,n=m+1:=⟨n - 1,by simp at hn; omega⟩
  simp only [List.length_nil,Nat.add_zero] at hd
  have c1:decide ((done.length:Int) < (p1.length:Int))=false:=decide_eq_false (by omega)
  simp only [bf,c1,Bool.false_eq_true,if_false,jE]
 | L :: Ls,n,done,B,F,hn,hd,hB,hF,hL,hFl,hf=>by
  obtain ⟨n,rfl⟩:∃ m,n=m+1:=⟨n - 1,by omega⟩
  simp only [List.length_cons] at hn hd
  obtain ⟨hf1,hf2⟩:=hf
  simp only at hf1 hf2
  have hpl:=hz.pl
  have c1:decide ((done.length:Int) < (p1.length:Int))=true:=decide_eq_true (by omega)
  obtain ⟨a,i,ha,hi,hiA⟩:=hA done.length (by omega)
  have hml:=uk g.s.Items g.pos g.neg g.id done.length B F (A done.length)
  have hmi:=Ai (xs:=g.s.Items) (ps:=g.pos) (ns:=g.neg) (id:=g.id) (A:=A done.length) hB hF
  -- the end of a round
  have key:∀ M,M=gp g.s.Items g.pos g.neg g.id done.length B F (A done.length)→bF N (done++L :: Ls) (done.length:Int) (bf N g p1 n) M=some (done++jE g.s.Items g.pos g.neg g.id A done.length (L :: Ls) B F):=by
   intro M hM
   subst hM
   have e1:idx (done++L :: Ls) (done.length:Int)=some L:=by rw [kK]; simp
   have e2:(done++L :: Ls).set ((done.length:Int)).toNat ⟨L.Toks++gp g.s.Items g.pos g.neg g.id done.length B F (A done.length)⟩=(done++[⟨L.Toks++gp g.s.Items g.pos g.neg g.id done.length B F (A done.length)⟩])++Ls:=by
    rw [Int.toNat_natCast,List.set_append_right _ _ (Nat.le_refl _),Nat.sub_self,List.set_cons_zero,List.append_assoc]; rfl
   simp only [bF,e1,Option.bind_some,d8,km (show L.Toks.length≤4294967296 by omega),bQ (show L.Toks.length+(gp g.s.Items g.pos g.neg g.id done.length B F (A done.length)).length≤4294967296 by omega),e2,wr1 done.length (by omega)]
   have:=DP hN g hz p1 A hp hA hAl Ls n (done++[⟨L.Toks++gp g.s.Items g.pos g.neg g.id done.length B F (A done.length)⟩]) L.Toks (gp g.s.Items g.pos g.neg g.id done.length B F (A done.length)) (by omega) (by simp; omega)
    (fun t ht=>by have:=hL 0 L rfl t ht; simpa using this) (fun t ht=>by simpa using hmi t ht) (fun j M hj t ht=>by have:=hL (j+1) M (by simpa using hj) t ht; simp only [List.length_append,List.length_cons,List.length_nil]; omega) (by omega)
    (by simp only [List.length_append,List.length_cons,List.length_nil]; exact uf hf2 (Nat.le_refl _) hml)
   simp only [List.length_append,List.length_cons,List.length_nil,Nat.zero_add] at this
   rw [this,List.append_assoc]; rfl
  simp only [bf,c1,if_true]
  by_cases h0:done.length=0
  ·have c2:decide ((done.length:Int)=0)=true:=decide_eq_true (by omega)
   simp only [c2,if_true,wF hN g hz [] [g.id] (by simp; omega) (by simp),Option.bind_some]
   exact key _ (by unfold gp; rw [if_pos h0])
  ·have c2:decide ((done.length:Int)=0)=false:=decide_eq_false (by omega)
   rw [if_neg h0] at hf1
   simp only [c2,Bool.false_eq_true,if_false]
   rw [Hu hN g hz _ B F done.length _ a i ha hi (by omega) hB hF (by rw [hiA]; omega) (by rw [hiA]; exact hAl _) hFl,hiA]
   exact key _ (by unfold gp; rw [if_neg h0])
theorem Je {N:Nat} (hN:1099000000000≤N) (g:bZ) (hz:SzG g) (ls:List ab) (A:Nat→List Int) (hp:ls.length≤g.pos.length) (hA:∀ k,k < ls.length→∃ a i,idx g.chain.Pos (k:Int)=some a∧idx g.alphas a=some i∧i.L=A k) (hAl:∀ k,(A k).length≤4294967296)
  (hL:∀ i L,ls[i]?=some L→∀ t∈L.Toks,t.Ids.length=i+1) (hf:AI (fun k=>(A k).length) 0 (ls.map (·.Toks.length)) 0 0):fw N g ls=some (jE g.s.Items g.pos g.neg g.id A 0 ls [] []):=by
 have hpl:=hz.pl
 have:=DP hN g hz ls A hp hA hAl ls N [] [] [] (by omega) (by simp) (by simp) (by simp) (fun i L h t ht=>by rw [hL i L h t ht]; simp; omega) (by simp) (by simpa using hf)
 unfold fw
 simpa using this
theorem Cb {N:Nat} (hN:1099000000000≤N) (r:ac) (b:Bool) (hl:r.Pats.length≤1048576):qh N r b=some (r.Pats.filter fun p=>p.Not == b):=by
 unfold qh
 refine (lp' hN r.Pats (by omega) (gx N r b) (fun t u=>some (u++t.filter fun p=>p.Not == b)) (fun u t=>u.length+t.length≤1048576) [] (by simpa using hl) (fun n u i p t g1 g2 g3 g4 g5 g6 gI ih=>?_) (fun n u i g1 g2 gI=>?_)).trans (by simp)
 ·simp only [List.length_cons] at gI
  simp only [gx,g5,if_true,g4,Option.bind_some,List.filter_cons,g6]
  cases hb:(p.Not == b) with
  | true=>
   simp only [if_true,bQ (show u.length+[p].length≤4294967296 by simp; omega),Option.bind_some]
   rw [ih _ (by simp; omega)]; simp
  | false=>
   simp only [Bool.false_eq_true,if_false]
   exact ih u (by omega)
 ·simp only [gx,g2,Bool.false_eq_true,if_false]; simp
theorem lI {α:Type} (d:List α) (x y:α) (t:List α):(d++x :: t).set d.length y=(d++[y])++t:=by
 rw [List.set_append_right _ _ (Nat.le_refl _),Nat.sub_self,List.set_cons_zero,List.append_assoc]; rfl
theorem dP {α:Type} (d:List α) (x:α) (t:List α):idx (d++x :: t) (d.length:Int)=some x:=by rw [kK]; simp
theorem BU {N:Nat} (hN:1099000000000≤N) (g:bZ) (hz:SzG g) (by_:Int) (x1:av × Bool) (s1:List aa) (s2:Int) (K:List aa→Int→Option (List aa)) (x2:aa) (x3:List aB × Bool) (hb:x3.1.length≤2147483648) :
  ∀ (ns:List ao) (n:Nat) (dn:List ao) (dh h:List Int),ns.length < n→g.neg=dn++ns→dh.length=dn.length→h.length=ns.length →
   bI N g by_ x1 s1 s2 K x2 x3 n (dh++h) (dn.length:Int)=K (s1.set s2.toNat ⟨x2.Ids,dh++jG x1.1 x3.1 by_ ns h⟩) (IntKind.i64.wrap (s2+1))
 | [],n,dn,dh,h,hn,hg,hd,hh=>by
  obtain ⟨n,rfl⟩:∃ m,n=m+1:=⟨n - 1,by simp at hn; omega⟩
  have c1:decide ((dn.length:Int) < (g.neg.length:Int))=false:=decide_eq_false (by rw [hg]; simp)
  simp only [bI,c1,Bool.false_eq_true,if_false,jG]
 | p :: ns,n,dn,dh,[],hn,hg,hd,hh=>by simp at hh
 | p :: ns,n,dn,dh,x :: h,hn,hg,hd,hh=>by
  obtain ⟨n,rfl⟩:∃ m,n=m+1:=⟨n - 1,by omega⟩
  simp only [List.length_cons] at hn hh
  have hnl:=hz.nl
  have hl:g.neg.length=dn.length+(ns.length+1):=by rw [hg]; simp
  have c1:decide ((dn.length:Int) < (g.neg.length:Int))=true:=decide_eq_true (by omega)
  have e1:idx g.neg (dn.length:Int)=some p:=by rw [hg]; exact dP _ _ _
  have e2:idx (dh++x :: h) (dn.length:Int)=some x:=by rw [← hd]; exact dP _ _ _
  have hp:p∈g.neg:=by rw [hg]; simp
  simp only [bI,c1,if_true,e1,Option.bind_some,Au hN p x1.1 x3.1 (hz.na p hp) hb,wr1 dn.length (by omega),jG]
  have ih:=BU hN g hz by_ x1 s1 s2 K x2 x3 hb ns n (dn++[p])
  simp only [List.length_append,List.length_cons,List.length_nil,Nat.zero_add] at ih
  cases hm:(bM p x1.1 x3.1).2 with
  | true=>
   simp only [if_true,e2,Option.bind_some]
   have e3:(dh++x :: h).set ((dn.length:Int)).toNat (IntKind.i64.wrap (x+by_))=(dh++[IntKind.i64.wrap (x+by_)])++h:=by rw [Int.toNat_natCast,← hd]; exact lI _ _ _ _
   rw [e3,ih (dh++[IntKind.i64.wrap (x+by_)]) h (by omega) (by rw [hg]; simp) (by simp [hd]) (by omega)]
   simp
  | false=>
   simp only [Bool.false_eq_true,if_false]
   have:=ih (dh++[x]) h (by omega) (by rw [hg]; simp) (by simp [hd]) (by omega)
   simp only [List.append_assoc,List.cons_append,List.nil_append] at this
   exact this
theorem Cr {N:Nat} (hN:1099000000000≤N) (g:bZ) (hz:SzG g) (p1:List aa) (by_:Int) (x1:av × Bool) (hl:p1.length≤4294967296):∀ (ts:List aa) (n:Nat) (d:List aa),ts.length < n→d.length+ts.length=p1.length→(∀ t∈ts,t.Ids.length≤g.pos.length∧t.Hits.length=g.neg.length) →
  bj N g p1 by_ x1 n (d++ts) (d.length:Int)=some (d++iD g.s.Items g.pos g.neg x1.1 by_ ts)
 | [],n,d,hn,hd,ht=>by
  obtain ⟨n,rfl⟩:∃ m,n=m+1:=⟨n - 1,by simp at hn; omega⟩
  simp only [List.length_nil,Nat.add_zero] at hd
  have c1:decide ((d.length:Int) < (p1.length:Int))=false:=decide_eq_false (by omega)
  simp only [bj,c1,Bool.false_eq_true,if_false,iD,List.map_nil]
 | t :: ts,n,d,hn,hd,ht=>by
  obtain ⟨n,rfl⟩:∃ m,n=m+1:=⟨n - 1,by omega⟩
  simp only [List.length_cons] at hn hd
  have hpl:=hz.pl
  have hsa:=hz.sa
  have c1:decide ((d.length:Int) < (p1.length:Int))=true:=decide_eq_true (by omega)
  obtain ⟨h1,h2⟩:=ht t (by simp)
  have hbl:=rk g.s.Items g.pos t.Ids
  have e0:cD g.s.Items (g.pos.take t.Ids.length) t.Ids []=okB g.s.Items g.pos t.Ids:=rfl
  have ih:=fun y=>Cr hN g hz p1 by_ x1 hl ts n (d++[y]) (by omega) (by simp; omega) (fun u hu=>ht u (by simp [hu]))
  simp only [List.length_append,List.length_cons,List.length_nil,Nat.zero_add] at ih
  simp only [bj,c1,if_true,dP,Option.bind_some,Cj hN g.pos g.s t.Ids hz.sa hz.pa hz.sl hz.fl (by omega) h1,e0,wr1 d.length (by omega)]
  have e4:iD g.s.Items g.pos g.neg x1.1 by_ (t :: ts)=(if (okB g.s.Items g.pos t.Ids).2=true then ⟨t.Ids,jG x1.1 (okB g.s.Items g.pos t.Ids).1 by_ g.neg t.Hits⟩ else t) :: iD g.s.Items g.pos g.neg x1.1 by_ ts:=rfl
  rw [e4]
  cases hok:(okB g.s.Items g.pos t.Ids).2 with
  | false=>
   simp only [Bool.not_false,if_true,Bool.false_eq_true,if_false]
   have:=ih t
   simp only [List.append_assoc,List.cons_append,List.nil_append] at this
   exact this
  | true=>
   simp only [Bool.not_true,Bool.false_eq_true,if_false,if_true]
   have h3:=BU hN g hz by_ x1 (d++t :: ts) (d.length:Int) (bj N g p1 by_ x1 n) t (okB g.s.Items g.pos t.Ids) (by omega) g.neg N [] [] t.Hits (by have:=hz.nl; omega) rfl rfl h2
   simp only [List.nil_append,List.length_nil,Int.natCast_zero,Int.toNat_natCast] at h3
   have h3':bI N g by_ x1 (d++t :: ts) (d.length:Int) (bj N g p1 by_ x1 n) t (okB g.s.Items g.pos t.Ids) N t.Hits 0=_:=h3
   rw [h3',lI,wr1 d.length (by omega),ih,List.append_assoc]; rfl
theorem Ht {N:Nat} (hN:1099000000000≤N) (g:bZ) (hz:SzG g) (ts:List aa) (by_:Int) (hl:ts.length≤4294967296) (ht:∀ t∈ts,t.Ids.length≤g.pos.length∧t.Hits.length=g.neg.length) :
  eT N g ts by_=some (iD g.s.Items g.pos g.neg (aH g.s.Items g.id).1 by_ ts):=by
 unfold eT
 rw [vM hN g.s g.id hz.sl hz.fl,Option.bind_some]
 have:=Cr hN g hz ts by_ (aH g.s.Items g.id) hl ts N [] (by omega) (by simp) ht
 simpa using this
structure Cv (as:List aQ) (r:ac) (c:aC) (row:aF):Prop where
 ne:1≤row.Levels.length
 ll:row.Levels.length=(pos r.Pats).length
 ids:∀ i L,row.Levels[i]?=some L→∀ t∈L.Toks,t.Ids.length=i+1
 hit:∀ L,row.Levels[row.Levels.length - 1]?=some L→∀ t∈L.Toks,t.Hits.length=(neg r.Pats).length
 at_:∀ k,k < row.Levels.length→∃ a i,idx c.Pos (k:Int)=some a∧idx as a=some i
 fit:AI (fun k=>(ta as c k).length) 0 (row.Levels.map (·.Toks.length)) 0 0
 al:∀ k,(ta as c k).length≤4294967296
theorem BG {A:Nat→Nat}:∀ {ls:List Nat} {k b f:Nat},AI A k ls b f→∀ l∈ls,l≤4294967296
 | [],_,_,_,_,_,h=>by cases h
 | l :: ls,k,b,f,h,x,hx=>by
  rcases List.mem_cons.1 hx with rfl | hx
  ·have:=h.1; omega
  ·exact BG h.2 x hx
theorem Cq {row:aF} {L:ab} {M:List aa} {i:Nat} (hL:row.Levels[i]?=some L) (hM:M.length=L.Toks.length):(row.Levels.set i ⟨M⟩).map (·.Toks.length)=row.Levels.map (·.Toks.length):=by
 rw [List.map_set]
 have:(row.Levels.map (·.Toks.length))[i]?=some L.Toks.length:=by rw [List.getElem?_map,hL]; rfl
 apply List.ext_getElem?
 intro j
 rw [List.getElem?_set]
 split
 ·rename_i e; subst e
  split
  ·rw [this,← hM]
  ·rename_i hlt; rw [List.length_map] at hlt; have:=(List.getElem?_eq_some_iff.1 hL).1; omega
 ·rfl
theorem ut {as:List aQ} {c:aC} {k:Nat} {a:Int} {i:aQ} (h1:idx c.Pos (k:Int)=some a) (h2:idx as a=some i):i.L=ta as c k:=by
 unfold ta
 rw [kK] at h1
 rw [h1]
 simp only [h2]
structure SzR (r:ac):Prop where
 pl:r.Pats.length≤1048576
 sa:eC r.Pats≤1048576
 pa:∀ p∈r.Pats,p.Args.length≤1048576
theorem ED {r:ac} {c:aC} {as:List aQ} {s:ae} {id:Int} (hr:SzR r) (hs:s.Items.length≤1048576) (hx:∀ x∈s.Items,x.F.Fields.length≤1048576):SzG ⟨pos r.Pats,neg r.Pats,c,as,s,id⟩:=by
 have h1:=uD r.Pats
 have h2:=hr.sa
 have h3:(pos r.Pats).length≤r.Pats.length:=List.length_filter_le _ _
 have h4:(neg r.Pats).length≤r.Pats.length:=List.length_filter_le _ _
 have h5:=hr.pl
 exact ⟨by simp only; omega,by simp only; omega,fun p hp=>hr.pa p (List.mem_filter.1 hp).1,by simp only; omega,fun p hp=>hr.pa p (List.mem_filter.1 hp).1,hs,hx⟩
theorem Gz (l:List ao):(l.filter fun p=>p.Not == true)=neg l:=by
 unfold neg; congr 1; funext p; cases p.Not <;> rfl
theorem KB {N:Nat} (hN:1099000000000≤N) (r:ac) (c:aC) (as:List aQ) (s:ae) (id:Int) (row:aF) (hr:SzR r) (hs:s.Items.length≤1048576) (hx:∀ x∈s.Items,x.F.Fields.length≤1048576) (ok:Cv as r c row) {β:Type} (K:List ab→Option β) :
  ((idx row.Levels (IntKind.i64.wrap ((row.Levels.length:Int) - 1))).bind fun x8=>((eT N ⟨pos r.Pats,neg r.Pats,c,as,s,id⟩ x8.Toks 1).bind fun x9=>((fw N ⟨pos r.Pats,neg r.Pats,c,as,s,id⟩ (row.Levels.set (IntKind.i64.wrap ((row.Levels.length:Int) - 1)).toNat (⟨x9⟩:ab))).bind fun x10=>K x10)))
   = K (oD s.Items as (aH s.Items id).1 id r c row).Levels:=by
 have hg:=ED (c:=c) (as:=as) (s:=s) (id:=id) hr hs hx
 have hne:=ok.ne
 have hll:=ok.ll
 have hpl:=hg.pl
 simp only at hpl
 have ew:IntKind.i64.wrap ((row.Levels.length:Int) - 1)=((row.Levels.length - 1:Nat):Int):=by
  rw [show ((row.Levels.length:Int) - 1)=((row.Levels.length - 1:Nat):Int) by omega]
  exact wr (by omega) (by omega)
 have hlt:row.Levels.length - 1 < row.Levels.length:=by omega
 have hL:row.Levels[row.Levels.length - 1]?=some row.Levels[row.Levels.length - 1]:=List.getElem?_eq_getElem hlt
 have hlen:(row.Levels[row.Levels.length - 1]).Toks.length≤4294967296:=BG ok.fit _ (List.mem_map.2 ⟨_,List.getElem_mem hlt,rfl⟩)
 rw [ew,ag hlt,Option.bind_some,Ht hN _ hg _ 1 hlen (fun t ht=>⟨by have:=ok.ids _ _ hL t ht; simp only; omega,ok.hit _ hL t ht⟩),Option.bind_some,Int.toNat_natCast]
 have hset:=Cq (M:=iD s.Items (pos r.Pats) (neg r.Pats) (aH s.Items id).1 1 (row.Levels[row.Levels.length - 1]).Toks) hL (tW _)
 have hgrow:=Je hN _ hg (row.Levels.set (row.Levels.length - 1) ⟨iD s.Items (pos r.Pats) (neg r.Pats) (aH s.Items id).1 1 (row.Levels[row.Levels.length - 1]).Toks⟩) (ta as c) (by simp only [List.length_set]; omega)
  (fun k hk=>by
   rw [List.length_set] at hk
   obtain ⟨a,i,h1,h2⟩:=ok.at_ k hk
   exact ⟨a,i,h1,h2,ut h1 h2⟩) ok.al
  (fun i L hi t ht=>by
   rw [List.getElem?_set] at hi
   split at hi
   ·rename_i e; subst e
    ·simp only [Option.some.injEq] at hi
     subst hi
     have h1:=uh (xs:=s.Items) (ps:=pos r.Pats) (ns:=neg r.Pats) (f:=(aH s.Items id).1) (b:=1) (row.Levels[row.Levels.length - 1]).Toks
     have h2:t.Ids∈(row.Levels[row.Levels.length - 1]).Toks.map (·.Ids):=by rw [← h1]; exact List.mem_map.2 ⟨t,ht,rfl⟩
     obtain ⟨u,hu,e⟩:=List.mem_map.1 h2
     rw [← e]; exact ok.ids _ _ hL u hu
   ·exact ok.ids i L hi t ht)
  (by rw [hset]; exact ok.fit)
 rw [hgrow,Option.bind_some]
 unfold oD fE
 rw [hL]
theorem Gl {N:Nat} (hN:1099000000000≤N) (d:bh) (n:bB) (m:aJ) (s:ae) (id:Int) (as:List aQ) (hs:s.Items.length≤1048576) (hx:∀ x∈s.Items,x.F.Fields.length≤1048576) (hlr:m.Rules.length≤1048576) :
  ∀ (ws:List aF) (rs:List ac) (cs:List aC) (k:Nat) (dr:List ac) (dc:List aC) (dw:List aF),ws.length < k→d.Rules=dr++rs→n.Chains=dc++cs→dw.length+ws.length=m.Rules.length→dr.length=dw.length→dc.length=dw.length→rs.length=ws.length→cs.length=ws.length →
   (∀ (i:Nat) (r:ac) (c:aC) (w:aF),rs[i]?=some r→cs[i]?=some c→ws[i]?=some w→SzR r∧Cv as r c w) →
   d4 N d n m s id as k (dw++ws) (dw.length:Int)=some (as,dw++mO (oD s.Items as (aH s.Items id).1 id) rs cs ws)
 | [],rs,cs,k,dr,dc,dw,hk,h1,h2,h3,h4,h5,h6,h7,h8=>by
  obtain ⟨k,rfl⟩:∃ j,k=j+1:=⟨k - 1,by simp at hk; omega⟩
  simp only [List.length_nil,Nat.add_zero] at h3
  have c1:decide ((dw.length:Int) < (m.Rules.length:Int))=false:=decide_eq_false (by omega)
  simp only [d4,c1,Bool.false_eq_true,if_false]
  cases rs <;> cases cs <;> simp [mO]
 | w :: ws,[],cs,k,dr,dc,dw,hk,h1,h2,h3,h4,h5,h6,h7,h8=>by simp at h6
 | w :: ws,r :: rs,[],k,dr,dc,dw,hk,h1,h2,h3,h4,h5,h6,h7,h8=>by simp at h7
 | w :: ws,r :: rs,c :: cs,k,dr,dc,dw,hk,h1,h2,h3,h4,h5,h6,h7,h8=>by
  obtain ⟨k,rfl⟩:∃ j,k=j+1:=⟨k - 1,by omega⟩
  simp only [List.length_cons] at hk h3 h6 h7
  have c1:decide ((dw.length:Int) < (m.Rules.length:Int))=true:=decide_eq_true (by omega)
  obtain ⟨q1,q2⟩:=h8 0 r c w rfl rfl rfl
  have e1:idx d.Rules (dw.length:Int)=some r:=by rw [h1,← h4]; exact dP _ _ _
  have e2:idx n.Chains (dw.length:Int)=some c:=by rw [h2,← h5]; exact dP _ _ _
  simp only [d4,c1,if_true,dP,Option.bind_some,mZ,e1,e2,Cb hN r false q1.pl,Cb hN r true q1.pl,IW,Gz]
  rw [KB hN r c as s id w q1 hs hx q2 (fun x10=>d4 N d n m s id as k ((dw++w :: ws).set (dw.length:Int).toNat (⟨x10⟩:aF)) (IntKind.i64.wrap ((dw.length:Int)+1)))]
  rw [Int.toNat_natCast,lI,wr1 dw.length (by omega)]
  have:=Gl hN d n m s id as hs hx hlr ws rs cs k (dr++[r]) (dc++[c]) (dw++[⟨(oD s.Items as (aH s.Items id).1 id r c w).Levels⟩]) (by omega) (by rw [h1]; simp) (by rw [h2]; simp) (by simp; omega) (by simp [h4]) (by simp [h5]) (by omega) (by omega)
   (fun i r' c' w' a1 a2 a3=>h8 (i+1) r' c' w' (by simpa using a1) (by simpa using a2) (by simpa using a3))
  simp only [List.length_append,List.length_cons,List.length_nil,Nat.zero_add] at this
  rw [this,List.append_assoc]
  rfl
theorem FO {N:Nat} (hN:1099000000000≤N) (d:bh) (n:bB) (m:aJ) (s:ae) (id:Int) (f:av × Bool) (ha:∀ a∈n.Alphas,a.At.length≤1048576) (hl:n.Alphas.length≤1048576) :
  ∀ (as:List aj) (k:Nat) (da:List aj) (di is:List aQ),as.length < k→n.Alphas=da++as→di.length=da.length→is.length=as.length→(∀ i∈is,i.L.length+1≤4294967296) →
   d5 N d n m s id f k (di++is) (da.length:Int)=d4 N d n m s id (di++bS f.1 id as is) N m.Rules 0
 | [],k,da,di,is,hk,h1,h2,h3,h4=>by
  obtain ⟨k,rfl⟩:∃ j,k=j+1:=⟨k - 1,by simp at hk; omega⟩
  have c1:decide ((da.length:Int) < (n.Alphas.length:Int))=false:=decide_eq_false (by rw [h1]; simp)
  simp only [d5,c1,Bool.false_eq_true,if_false,bS]
 | a :: as,k,da,di,[],hk,h1,h2,h3,h4=>by simp at h3
 | a :: as,k,da,di,i :: is,hk,h1,h2,h3,h4=>by
  obtain ⟨k,rfl⟩:∃ j,k=j+1:=⟨k - 1,by omega⟩
  simp only [List.length_cons] at hk h3
  have hal:n.Alphas.length=da.length+(as.length+1):=by rw [h1]; simp
  have c1:decide ((da.length:Int) < (n.Alphas.length:Int))=true:=decide_eq_true (by omega)
  have e1:idx n.Alphas (da.length:Int)=some a:=by rw [h1]; exact dP _ _ _
  have e2:idx (di++i :: is) (da.length:Int)=some i:=by rw [← h2]; exact dP _ _ _
  have ham:a∈n.Alphas:=by rw [h1]; simp
  have hil:=h4 i (by simp)
  have ih:=fun y=>FO hN d n m s id f ha hl as k (da++[a]) (di++[y]) is (by omega) (by rw [h1]; simp) (by simp [h2]) (by omega) (fun j hj=>h4 j (by simp [hj]))
  simp only [List.length_append,List.length_cons,List.length_nil,Nat.zero_add,List.append_assoc,List.cons_append,List.nil_append] at ih
  simp only [d5,c1,if_true,e1,Option.bind_some,Ga hN a f.1 (ha a ham),wr1 da.length (by omega),bS]
  cases hp:et a f.1 with
  | true=>
   simp only [if_true,e2,Option.bind_some,bQ (show i.L.length+[id].length≤4294967296 by simpa using hil)]
   have e3:(di++i :: is).set ((da.length:Int)).toNat (⟨i.L++[id]⟩:aQ)=di++⟨i.L++[id]⟩ :: is:=by
    rw [Int.toNat_natCast,← h2,lI,List.append_assoc]; rfl
   rw [e3]
   exact ih _
  | false=>
   simp only [Bool.false_eq_true,if_false]
   exact ih i
structure I9 (d:bh) (n:bB) (m:aJ) (s:ae) (id:Int):Prop where
 sl:s.Items.length≤1048576
 fl:∀ x∈s.Items,x.F.Fields.length≤1048576
 at_:∀ a∈n.Alphas,a.At.length≤1048576
 al:n.Alphas.length≤1048576
 rl:m.Rules.length≤1048576
 la:m.Alphas.length=n.Alphas.length
 lc:n.Chains.length=m.Rules.length
 ld:d.Rules.length=m.Rules.length
 il:∀ i∈m.Alphas,i.L.length+1≤4294967296
 rows:∀ (i:Nat) (r:ac) (c:aC) (w:aF),d.Rules[i]?=some r→n.Chains[i]?=some c→m.Rules[i]?=some w→SzR r∧Cv (bS (aH s.Items id).1 id n.Alphas m.Alphas) r c w
theorem Kv {N:Nat} (hN:1099000000000≤N) (d:bh) (n:bB) (m:aJ) (s:ae) (id:Int) (h:I9 d n m s id):mh N d n m s id=some ((AS d n m s id).Alphas,(AS d n m s id).Rules):=by
 have hal:=h.al
 have hrl:=h.rl
 unfold mh
 rw [vM hN s id h.sl h.fl,Option.bind_some]
 have h1:=FO hN d n m s id (aH s.Items id) h.at_ h.al n.Alphas N [] [] m.Alphas (by omega) rfl rfl h.la h.il
 simp only [List.nil_append,List.length_nil,Int.natCast_zero] at h1
 have h1':d5 N d n m s id (aH s.Items id) N m.Alphas 0=_:=h1
 rw [h1']
 have h2:=Gl hN d n m s id (bS (aH s.Items id).1 id n.Alphas m.Alphas) h.sl h.fl h.rl m.Rules d.Rules n.Chains N [] [] [] (by omega) rfl rfl (by simp) rfl rfl h.ld h.lc h.rows
 simp only [List.nil_append,List.length_nil,Int.natCast_zero] at h2
 exact h2
def InR (x:Int):Prop:=IntKind.i64.wrap x=x
theorem DM {N:Nat} (by_ s2:Int) (K:List aa→Int→Option (List aa)) (f:av) (l:List aB) (hby:by_=1∨by_ = -1) (x3:List Int) (hx:x3.length≤1048576) (done:List aa) (hs2:s2=(done.length:Int)) (ids:List Int) (rest:List aa) :
  ∀ (ns:List ao) (n:Nat) (dx dh h:List Int),ns.length < n→x3=dx++oF ns f l→dh.length=dx.length→h.length=ns.length→(∀ x∈h,InR x) →
   cJ N by_ s2 K (l,true) x3 n (done++⟨ids,dh++h⟩ :: rest) (dx.length:Int)=K (done++⟨ids,dh++jG f l by_ ns h⟩ :: rest) (IntKind.i64.wrap (s2+1))
 | [],n,dx,dh,h,hn,h1,h2,h3,h4=>by
  obtain ⟨n,rfl⟩:∃ m,n=m+1:=⟨n - 1,by simp at hn; omega⟩
  have c1:decide ((dx.length:Int) < (x3.length:Int))=false:=decide_eq_false (by rw [h1]; simp [oF])
  simp only [cJ,c1,Bool.false_eq_true,if_false,Option.bind_some,jG]
 | p :: ns,n,dx,dh,[],hn,h1,h2,h3,h4=>by simp at h3
 | p :: ns,n,dx,dh,x :: h,hn,h1,h2,h3,h4=>by
  obtain ⟨n,rfl⟩:∃ m,n=m+1:=⟨n - 1,by omega⟩
  simp only [List.length_cons] at hn h3
  have hl:x3.length=dx.length+(ns.length+1):=by rw [h1]; simp [oF]
  have c1:decide ((dx.length:Int) < (x3.length:Int))=true:=decide_eq_true (by omega)
  have e0:oF (p :: ns) f l=(if (bM p f l).2=true then 1 else 0) :: oF ns f l:=rfl
  have e1:idx x3 (dx.length:Int)=some (if (bM p f l).2=true then 1 else 0):=by rw [h1,e0]; exact dP _ _ _
  have e2:idx (done++(⟨ids,dh++x :: h⟩:aa) :: rest) s2=some ⟨ids,dh++x :: h⟩:=by rw [hs2]; exact dP _ _ _
  have e3:idx (dh++x :: h) (dx.length:Int)=some x:=by rw [← h2]; exact dP _ _ _
  have hxr:IntKind.i64.wrap x=x:=h4 x (by simp)
  have e4:IntKind.i64.wrap (x+IntKind.i64.wrap (by_*(if (bM p f l).2=true then 1 else 0)))=if (bM p f l).2=true then IntKind.i64.wrap (x+by_) else x:=by
   split
   ·rw [Int.mul_one]
    have:IntKind.i64.wrap by_=by_:=by rcases hby with rfl | rfl <;> decide
    rw [this]
   ·rw [Int.mul_zero,show IntKind.i64.wrap 0=0 by decide,Int.add_zero,hxr]
  have e5:∀ y:Int,(dh++x :: h).set ((dx.length:Int)).toNat y=(dh++[y])++h:=fun y=>by rw [Int.toNat_natCast,← h2]; exact lI _ _ _ _
  have e6:∀ y:aa,(done++(⟨ids,dh++x :: h⟩:aa) :: rest).set s2.toNat y=done++y :: rest:=fun y=>by rw [hs2,Int.toNat_natCast,lI,List.append_assoc]; rfl
  simp only [cJ,c1,if_true,Option.bind_some,e1,e2,e3,e4,e5,e6,wr1 dx.length (by omega)]
  have:=DM (N:=N) by_ s2 K f l hby x3 hx done hs2 ids rest ns n (dx++[if (bM p f l).2=true then 1 else 0]) (dh++[if (bM p f l).2=true then IntKind.i64.wrap (x+by_) else x]) h (by omega) (by rw [h1,e0]; simp) (by simp [h2]) (by omega) (fun z hz=>h4 z (by simp [hz]))
  simp only [List.length_append,List.length_cons,List.length_nil,Nat.zero_add] at this
  rw [this,jG]
  simp only [List.append_assoc,List.cons_append,List.nil_append]
theorem Jr {N:Nat} (hN:1099000000000≤N) (r:ac) (s:ae) (hz:SzS r s) (f:av) (by_:Int) (hby:by_=1∨by_ = -1) (toks:List aa) (hl:toks.length≤4294967296)
  (ht:∀ t∈toks,t.Ids.length≤ah r.Pats∧t.Hits.length=(neg r.Pats).length∧∀ x∈t.Hits,InR x):lZ N r s toks f by_=some (iD s.Items (pos r.Pats) (neg r.Pats) f by_ toks):=by
 have hpl:=hz.pl
 have hnl:(neg r.Pats).length≤r.Pats.length:=List.length_filter_le _ _
 unfold lZ
 have lp:∀ (ts:List aa) (n:Nat) (done:List aa),ts.length < n→done.length+ts.length≤4294967296→(∀ t∈ts,t∈toks)→bO N r s f by_ n (done++ts) (done.length:Int)=some (done++iD s.Items (pos r.Pats) (neg r.Pats) f by_ ts):=by
  intro ts
  induction ts with
  | nil=>
   intro n done hn hd hm
   obtain ⟨n,rfl⟩:∃ m,n=m+1:=⟨n - 1,by simp at hn; omega⟩
   have c1:decide ((done.length:Int) < ((done++[]).length:Int))=false:=decide_eq_false (by simp)
   simp only [bO,c1,Bool.false_eq_true,if_false,iD,List.map_nil]
  | cons t ts ih=>
   intro n done hn hd hm
   obtain ⟨n,rfl⟩:∃ m,n=m+1:=⟨n - 1,by omega⟩
   simp only [List.length_cons] at hn hd
   have c1:decide ((done.length:Int) < ((done++t :: ts).length:Int))=true:=decide_eq_true (by simp; omega)
   obtain ⟨h1,h2,h3⟩:=ht t (hm t (by simp))
   obtain ⟨l,g1,g2,g3⟩:=B1 hN r s hz t.Ids h1
   simp only [bO,c1,if_true,dP,Option.bind_some,g1,HK hN r f l hz.pl hz.pa g3]
   have e4:iD s.Items (pos r.Pats) (neg r.Pats) f by_ (t :: ts)=(if (okB s.Items (pos r.Pats) t.Ids).2=true then ⟨t.Ids,jG f (okB s.Items (pos r.Pats) t.Ids).1 by_ (neg r.Pats) t.Hits⟩ else t) :: iD s.Items (pos r.Pats) (neg r.Pats) f by_ ts:=rfl
   rw [e4]
   have next:=fun y=>ih n (done++[y]) (by omega) (by simp; omega) (fun u hu=>hm u (by simp [hu]))
   simp only [List.length_append,List.length_cons,List.length_nil,Nat.zero_add,List.append_assoc,List.cons_append,List.nil_append] at next
   cases hok:(okB s.Items (pos r.Pats) t.Ids).2 with
   | false=>
    simp only [Bool.false_eq_true,if_false]
    have:∀ n,cJ N by_ (done.length:Int) (bO N r s f by_ n) (l,false) (oF (neg r.Pats) f l) N (done++t :: ts) 0=bO N r s f by_ n (done++t :: ts) (IntKind.i64.wrap ((done.length:Int)+1)):=fun n=>by
     obtain ⟨M,rfl⟩:∃ m,N=m+1:=⟨N - 1,by omega⟩
     unfold cJ
     split <;> simp
    rw [this,wr1 done.length (by omega)]
    exact next t
   | true=>
    obtain rfl:=g2 hok
    simp only [if_true]
    have:=DM (N:=N) by_ (done.length:Int) (bO N r s f by_ n) f (okB s.Items (pos r.Pats) t.Ids).1 hby (oF (neg r.Pats) f (okB s.Items (pos r.Pats) t.Ids).1) (by simp [oF]; omega) done rfl t.Ids ts (neg r.Pats) N [] [] t.Hits (by omega) rfl rfl h2 h3
    simp only [List.nil_append,List.length_nil,Int.natCast_zero] at this
    have h5:cJ N by_ (done.length:Int) (bO N r s f by_ n) ((okB s.Items (pos r.Pats) t.Ids).1,true) (oF (neg r.Pats) f (okB s.Items (pos r.Pats) t.Ids).1) N (done++t :: ts) 0=_:=this
    rw [h5,wr1 done.length (by omega)]
    exact next _
 have:=lp toks N [] (by omega) (by simpa using hl) (fun t h=>h)
 simpa using this
def mW (xs:List an) (ps:List ao) (row ids:List Int):List aa:=ids.flatMap (iZ xs ps row)
def uz (xs:List an) (ps:List ao) (id:Int) (k:Nat) (B F:List aa) (A:List Int):List aa:=
 (if k=0 then iZ xs ps [] id else B.flatMap fun t=>iZ xs ps t.Ids id)++F.flatMap fun t=>mW xs ps t.Ids A
def ue (xs:List an) (ps ns:List ao) (k:Nat) (t:aa):aa:=if k+1=ps.length then ⟨t.Ids,eY xs ns (okB xs ps t.Ids).1⟩ else t
theorem ug {xs:List an} {ps ns:List ao} {row:List Int} {id:Int} {k:Nat} (h:row.length=k):(iZ xs ps row id).map (ue xs ps ns k)=mA xs ps ns row id:=by
 subst h
 unfold iZ mA
 by_cases hok:(okB xs ps (row++[id])).2=true
 ·rw [if_pos hok,if_pos hok,List.map_cons,List.map_nil]
  unfold ue
  by_cases hk:row.length+1=ps.length
  ·rw [if_pos hk,if_pos hk]
  ·rw [if_neg hk,if_neg hk]
 ·rw [if_neg hok,if_neg hok]; rfl
theorem EJ {xs:List an} {ps ns:List ao} {row:List Int} {k:Nat} (h:row.length=k) (ids:List Int):(mW xs ps row ids).map (ue xs ps ns k)=ez xs ps ns row ids:=by
 unfold mW ez
 rw [List.map_flatMap]
 congr 1
 funext v
 exact ug h
theorem kf {α β:Type} {f g:α→List β}:∀ {l:List α},(∀ x∈l,f x=g x)→l.flatMap f=l.flatMap g
 | [],_=>rfl
 | x :: t,h=>by rw [List.flatMap_cons,List.flatMap_cons,h x (by simp),kf fun y hy=>h y (by simp [hy])]
theorem EU {xs:List an} {ps ns:List ao} {id:Int} {k:Nat} {B F:List aa} {A:List Int} (h0:k=0→F=[]) (hB:∀ t∈B,t.Ids.length=k) (hF:∀ t∈F,t.Ids.length=k):(uz xs ps id k B F A).map (ue xs ps ns k)=gp xs ps ns id k B F A:=by
 unfold uz gp
 rw [List.map_append]
 by_cases hk:k=0
 ·rw [if_pos hk,if_pos hk,h0 hk,ug (by simp [hk])]
  simp [ez]
 ·rw [if_neg hk,if_neg hk,List.map_flatMap,List.map_flatMap]
  congr 1
  ·refine kf fun t ht=>?_
   rw [ug (hB t ht)]; simp [ez]
  ·exact kf fun t ht=>EJ (hF t ht) A
theorem sm (xs:List an) (ps:List ao) (row:List Int) (id:Int):(iZ xs ps row id).length≤1:=by unfold iZ; split <;> simp
theorem zH (xs:List an) (ps:List ao) (row:List Int):∀ (ids:List Int),(mW xs ps row ids).length≤ids.length
 | []=>by simp [mW]
 | v :: ids=>by
  have h1:=zH xs ps row ids
  have h2:=sm xs ps row v
  unfold mW at h1 ⊢
  rw [List.flatMap_cons,List.length_append,List.length_cons]; omega
theorem Fx {xs:List an} {ps:List ao} {id:Int} {k:Nat} {B F:List aa} {A:List Int} (hB:∀ t∈B,t.Ids.length=k) (hF:∀ t∈F,t.Ids.length=k):∀ t∈uz xs ps id k B F A,t.Ids.length=k+1∧(okB xs ps t.Ids).2=true:=by
 have hj:∀ (row:List Int) (v:Int),row.length=k→∀ t∈iZ xs ps row v,t.Ids.length=k+1∧(okB xs ps t.Ids).2=true:=fun row v hr t ht=>by
  unfold iZ at ht
  split at ht
  ·simp only [List.mem_singleton] at ht; subst ht; exact ⟨by simp [hr],by assumption⟩
  ·cases ht
 intro t ht
 unfold uz at ht
 rcases List.mem_append.1 ht with h | h
 ·split at h
  ·rename_i hk; exact hj [] id (by simp [hk]) t h
  ·obtain ⟨u,hu,h⟩:=List.mem_flatMap.1 h
   exact hj _ _ (hB u hu) t h
 ·obtain ⟨u,hu,h⟩:=List.mem_flatMap.1 h
  unfold mW at h
  obtain ⟨v,_,h⟩:=List.mem_flatMap.1 h
  exact hj _ _ (hF u hu) t h
theorem Hd {N:Nat} (hN:1099000000000≤N) (r:ac) (s:ae) (hz:SzS r s) (F:List aa) (x12:aQ) (j:Nat) (K:List aa→Int→Option aJ) (t:aa) (ht:idx F (j:Int)=some t) (hj:j≤4294967296) (hr:t.Ids.length+1≤ah r.Pats) (hA:x12.L.length≤4294967296) (u0:List aa) (hl:u0.length+x12.L.length≤4294967296) :
  ed N r s F x12 (j:Int) K N u0 0=K (u0++mW s.Items (pos r.Pats) t.Ids x12.L) ((j+1:Nat):Int):=by
 refine lp' hN x12.L hA (fun n (u:List aa) i=>ed N r s F x12 (j:Int) K n u i) (fun w u=>K (u++mW s.Items (pos r.Pats) t.Ids w) ((j+1:Nat):Int)) (fun u w=>u.length+w.length≤4294967296) u0 hl (fun n u i v w g1 g2 g3 g4 g5 g6 gI gh=>?_) (fun n u i g1 g2 gI=>?_)
 ·simp only [List.length_cons] at gI
  have h1:=sm s.Items (pos r.Pats) t.Ids v
  simp only [ed,g5,if_true,ht,g4,Option.bind_some,Df hN r s hz u t.Ids v hr (by omega),g6]
  rw [gh _ (by rw [List.length_append]; omega)]
  simp [mW]
 ·simp only [ed,g2,Bool.false_eq_true,if_false,wr1 j (by omega)]; simp [mW]
theorem GY {N:Nat} (hN:1099000000000≤N) (r:ac) (s:ae) (hz:SzS r s) (x1:aF) (s1:List ab) (F:List aa) (k:Int) (K:List ab→List aa→Int→Option aJ) (x12:aQ) (hF:∀ t∈F,t.Ids.length+1≤ah r.Pats) (hFl:F.length≤4294967296) (hA:x12.L.length≤4294967296) (u0:List aa) (hl:u0.length+F.length*x12.L.length≤4294967296) :
  dd N r s x1 s1 F k K x12 N u0 0=bp N r s x1 s1 k K N (u0++F.flatMap fun t=>mW s.Items (pos r.Pats) t.Ids x12.L) 0:=by
 refine lp' hN F hFl (fun n (u:List aa) i=>dd N r s x1 s1 F k K x12 n u i) (fun w u=>bp N r s x1 s1 k K N (u++w.flatMap fun t=>mW s.Items (pos r.Pats) t.Ids x12.L) 0) (fun u w=>u.length+w.length*x12.L.length≤4294967296) u0 hl (fun n u i v w g1 g2 g3 g4 g5 g6 gI gh=>?_) (fun n u i g1 g2 gI=>?_)
 ·rw [List.length_cons,Nat.succ_mul] at gI
  have h1:=zH s.Items (pos r.Pats) v.Ids x12.L
  simp only [dd,g5,if_true]
  rw [Hd hN r s hz F x12 i _ v g4 (by omega) (hF v g2) hA u (by omega),gh _ (by rw [List.length_append]; omega),List.flatMap_cons,List.append_assoc]
 ·simp only [dd,g2,Bool.false_eq_true,if_false]; simp
theorem Hz {N:Nat} (hN:1099000000000≤N) (r:ac) (s:ae) (hz:SzS r s) (x1:aF) (done:List ab) (L:ab) (Ls:List ab) (K:List ab→List aa→Int→Option aJ) (hx:x1.Levels.length=(pos r.Pats).length) (hk:done.length+1≤(pos r.Pats).length) (hpp:(pos r.Pats).length=ah r.Pats) (M:List aa)
  (hM:∀ t∈M,t.Ids.length=done.length+1∧(okB s.Items (pos r.Pats) t.Ids).2=true) (hl:L.Toks.length+M.length≤4294967296) :
  bp N r s x1 (done++L :: Ls) (done.length:Int) K N M 0=K (done++⟨L.Toks++M.map (ue s.Items (pos r.Pats) (neg r.Pats) done.length)⟩ :: Ls) (M.map (ue s.Items (pos r.Pats) (neg r.Pats) done.length)) ((done.length+1:Nat):Int):=by
 have hpl:=hz.pl
 have hpc:=fy r.Pats
 have ew:IntKind.i64.wrap ((x1.Levels.length:Int) - 1)=((x1.Levels.length - 1:Nat):Int):=by
  rw [show ((x1.Levels.length:Int) - 1)=((x1.Levels.length - 1:Nat):Int) by omega]
  exact wr (by omega) (by omega)
 have fin:∀ (n:Nat) (Z:List aa) (i:Int),Z.length=M.length→((if decide (i < (Z.length:Int)) then some (decide ((done.length:Int)=IntKind.i64.wrap ((x1.Levels.length:Int) - 1))) else some false)=some false) →
   bp N r s x1 (done++L :: Ls) (done.length:Int) K (n+1) Z i=K (done++⟨L.Toks++Z⟩ :: Ls) Z ((done.length+1:Nat):Int):=by
  intro n Z i hZ hb
  have e6:(done++L :: Ls).set ((done.length:Int)).toNat (⟨L.Toks++Z⟩:ab)=done++⟨L.Toks++Z⟩ :: Ls:=by rw [Int.toNat_natCast,lI,List.append_assoc]; rfl
  simp only [bp,hb,Option.bind_some,Bool.false_eq_true,if_false,dP,bQ (show L.Toks.length+Z.length≤4294967296 by omega),e6,wr1 done.length (by omega)]
 by_cases hlast:done.length+1=(pos r.Pats).length
 ·have c2:decide ((done.length:Int)=IntKind.i64.wrap ((x1.Levels.length:Int) - 1))=true:=by rw [ew]; exact decide_eq_true (by omega)
  have lp:∀ (Z:List aa) (n:Nat) (D:List aa),Z.length < n→D.length+Z.length=M.length→(∀ t∈Z,t∈M) →
    bp N r s x1 (done++L :: Ls) (done.length:Int) K n (D++Z) (D.length:Int)=K (done++⟨L.Toks++(D++Z.map (ue s.Items (pos r.Pats) (neg r.Pats) done.length))⟩ :: Ls) (D++Z.map (ue s.Items (pos r.Pats) (neg r.Pats) done.length)) ((done.length+1:Nat):Int):=by
   intro Z
   induction Z with
   | nil=>
    intro n D hn hD hm
    obtain ⟨n,rfl⟩:∃ m,n=m+1:=⟨n - 1,by simp at hn; omega⟩
    have c1:decide ((D.length:Int) < ((D++[]).length:Int))=false:=decide_eq_false (by simp)
    rw [fin n (D++[]) (D.length:Int) (by simpa using hD) (by rw [c1]; rfl)]
    simp
   | cons t Z ih=>
    intro n D hn hD hm
    obtain ⟨n,rfl⟩:∃ m,n=m+1:=⟨n - 1,by omega⟩
    simp only [List.length_cons] at hn hD
    have c1:decide ((D.length:Int) < ((D++t :: Z).length:Int))=true:=decide_eq_true (by simp; omega)
    obtain ⟨h1,h2⟩:=hM t (hm t (by simp))
    have e7:ue s.Items (pos r.Pats) (neg r.Pats) done.length t=⟨t.Ids,eY s.Items (neg r.Pats) (okB s.Items (pos r.Pats) t.Ids).1⟩:=by unfold ue; rw [if_pos hlast]
    simp only [bp,c1,if_true,c2,Option.bind_some,dP,Fo hN r s hz t (by omega) h2,Int.toNat_natCast,lI,wr1 D.length (by omega)]
    have:=ih n (D++[⟨t.Ids,eY s.Items (neg r.Pats) (okB s.Items (pos r.Pats) t.Ids).1⟩]) (by omega) (by simp; omega) (fun u hu=>hm u (by simp [hu]))
    simp only [List.length_append,List.length_cons,List.length_nil,Nat.zero_add] at this
    rw [this,List.map_cons,e7]
    simp only [List.append_assoc,List.cons_append,List.nil_append]
  have:=lp M N [] (by omega) (by simp) (fun t h=>h)
  simpa using this
 ·have c2:decide ((done.length:Int)=IntKind.i64.wrap ((x1.Levels.length:Int) - 1))=false:=by rw [ew]; exact decide_eq_false (by omega)
  have e7:M.map (ue s.Items (pos r.Pats) (neg r.Pats) done.length)=M:=by
   rw [show ue s.Items (pos r.Pats) (neg r.Pats) done.length=id from by funext t; unfold ue; rw [if_neg hlast]; rfl,List.map_id]
  obtain ⟨m,rfl⟩:∃ m,N=m+1:=⟨N - 1,by omega⟩
  rw [e7]
  have:=fin m M 0 rfl (by rw [c2]; split <;> rfl)
  exact this
theorem DT {N:Nat} (hN:1099000000000≤N) (r:ac) (s:ae) (hz:SzS r s) (c:aC) (m:aJ) (id:Int) (thr:List Bool) (x1:aF) (done:List ab) (L:ab) (Ls:List ab) (K:List ab→List aa→Int→Option aJ) (k:Nat) (hk:done.length=k) (B F:List aa) (a:Int) (A:aQ) (b:Bool)
  (hp1:idx c.Pos (k:Int)=some a) (hA:idx m.Alphas a=some A) (hb:idx thr a=some b) (hbf:b=false→∀ row:List Int,row.length=k→iZ s.Items (pos r.Pats) row id=[])
  (hd:k≠0→∃ D,done=D++[⟨B++F⟩]) (h0:k=0→B=[]) (hkp:k+1≤ah r.Pats) (hB:∀ t∈B,t.Ids.length=k) (hF:∀ t∈F,t.Ids.length=k) (hAl:A.L.length≤4294967296) (hFl:F.length≤4294967296) (u0:List aa) (hl:u0.length+B.length+F.length*A.L.length≤4294967296) :
  cI N r c m s id thr x1 (done++L :: Ls) F (k:Int) K (B.length:Int) N u0 0=bp N r s x1 (done++L :: Ls) (k:Int) K N (u0++(B.flatMap fun t=>iZ s.Items (pos r.Pats) t.Ids id)++F.flatMap fun t=>mW s.Items (pos r.Pats) t.Ids A.L) 0:=by
 have hpl:=hz.pl
 have hpc:=fy r.Pats
 have tail:∀ (n:Nat) (u:List aa) (i:Int),((if decide (i < (B.length:Int)) then ((idx c.Pos (k:Int)).bind fun x6=>((idx thr x6).bind fun x7=>some x7)) else some false)=some false)→u.length+F.length*A.L.length≤4294967296 →
   cI N r c m s id thr x1 (done++L :: Ls) F (k:Int) K (B.length:Int) (n+1) u i=bp N r s x1 (done++L :: Ls) (k:Int) K N (u++F.flatMap fun t=>mW s.Items (pos r.Pats) t.Ids A.L) 0:=by
  intro n u i hc hu
  unfold cI
  rw [hc]
  simp only [Option.bind_some,Bool.false_eq_true,if_false,hp1,hA]
  exact GY hN r s hz x1 _ F (k:Int) K A (fun t ht=>by rw [hF t ht]; exact hkp) hFl hAl u hu
 cases b with
 | false=>
  have e1:(B.flatMap fun t=>iZ s.Items (pos r.Pats) t.Ids id)=[]:=by
   rw [kf (g:=fun _=>[]) fun t ht=>hbf rfl _ (hB t ht)]; simp
  obtain ⟨n,rfl⟩:∃ n,N=n+1:=⟨N - 1,by omega⟩
  rw [e1,List.append_nil]
  exact tail n u0 0 (by simp only [hp1,hb,Option.bind_some]; split <;> rfl) (by omega)
 | true=>
  have lp:∀ (Z:List aa) (n:Nat) (D:List aa) (u:List aa),Z.length < n→B=D++Z→u.length+Z.length+F.length*A.L.length≤4294967296 →
    cI N r c m s id thr x1 (done++L :: Ls) F (k:Int) K (B.length:Int) n u (D.length:Int)=bp N r s x1 (done++L :: Ls) (k:Int) K N (u++(Z.flatMap fun t=>iZ s.Items (pos r.Pats) t.Ids id)++F.flatMap fun t=>mW s.Items (pos r.Pats) t.Ids A.L) 0:=by
   intro Z
   induction Z with
   | nil=>
    intro n D u hn hD hu
    obtain ⟨n,rfl⟩:∃ m,n=m+1:=⟨n - 1,by simp at hn; omega⟩
    have c1:decide ((D.length:Int) < (B.length:Int))=false:=decide_eq_false (by rw [hD]; simp)
    rw [tail n u _ (by rw [c1]; rfl) (by simpa using hu)]
    simp
   | cons t Z ih=>
    intro n D u hn hD hu
    obtain ⟨n,rfl⟩:∃ m,n=m+1:=⟨n - 1,by omega⟩
    simp only [List.length_cons] at hn hu
    have hBl:B.length=D.length+(Z.length+1):=by rw [hD]; simp
    have c1:decide ((D.length:Int) < (B.length:Int))=true:=decide_eq_true (by omega)
    have hk0:k≠0:=fun e=>by rw [h0 e] at hBl; simp at hBl
    obtain ⟨D',hD'⟩:=hd hk0
    have ew:IntKind.i64.wrap ((k:Int) - 1)=((k - 1:Nat):Int):=by
     rw [show ((k:Int) - 1)=((k - 1:Nat):Int) by omega]
     exact wr (by omega) (by omega)
    have e1:idx (done++L :: Ls) ((k - 1:Nat):Int)=some ⟨B++F⟩:=by
     rw [hD',List.append_assoc,← hk,hD',kK]
     simp
    have e2:idx (B++F) (D.length:Int)=some t:=by rw [hD,List.append_assoc]; exact dP _ _ _
    have h1:=sm s.Items (pos r.Pats) t.Ids id
    have htk:=hB t (by rw [hD]; simp)
    simp only [cI,c1,if_true,hp1,hb,Option.bind_some,ew,e1,e2,Df hN r s hz u t.Ids id (by omega) (by omega),wr1 D.length (by omega)]
    have:=ih n (D++[t]) (u++iZ s.Items (pos r.Pats) t.Ids id) (by omega) (by rw [hD]; simp) (by rw [List.length_append]; omega)
    simp only [List.length_append,List.length_cons,List.length_nil,Nat.zero_add] at this
    rw [this,List.flatMap_cons]
    simp only [List.append_assoc]
  exact lp B N [] u0 (by omega) rfl hl
theorem Ed {N:Nat} (hN:1099000000000≤N) (r:ac) (s:ae) (hz:SzS r s) (c:aC) (m:aJ) (at_ id:Int) (thr:List Bool) (x1:aF) (hx:x1.Levels.length=(pos r.Pats).length) (hx1:1≤x1.Levels.length) (hpp:(pos r.Pats).length=ah r.Pats) (A:Nat→List Int) (hAl:∀ k,(A k).length≤4294967296)
  (hA:∀ k,k < x1.Levels.length→∃ a i b,idx c.Pos (k:Int)=some a∧idx m.Alphas a=some i∧i.L=A k∧idx thr a=some b∧(b=false→∀ row:List Int,row.length=k→iZ s.Items (pos r.Pats) row id=[])) :
  ∀ (rest:List ab) (n:Nat) (done:List ab) (B F:List aa),rest.length < n→done.length+rest.length=x1.Levels.length→(done.length≠0→∃ D,done=D++[⟨B++F⟩])→(done.length=0→B=[]∧F=[])→(∀ t∈B,t.Ids.length=done.length)→(∀ t∈F,t.Ids.length=done.length)→(∀ i L,rest[i]?=some L→∀ t∈L.Toks,t.Ids.length=done.length+1+i) →
   F.length≤4294967296→AI (fun k=>(A k).length) done.length (rest.map (·.Toks.length)) B.length F.length →
   aT N r c m at_ s id thr x1 n (done++rest) F (done.length:Int)=some ⟨m.Alphas,m.Rules.set at_.toNat ⟨done++jE s.Items (pos r.Pats) (neg r.Pats) id A done.length rest B F⟩⟩
 | [],n,done,B,F,hn,hd,hD,h0,hB,hF,hL,hFl,hf=>by
  obtain ⟨n,rfl⟩:∃ m,n=m+1:=⟨n - 1,by simp at hn; omega⟩
  simp only [List.length_nil,Nat.add_zero] at hd
  have hpl:=hz.pl
  have hpc:=fy r.Pats
  have ew:IntKind.i64.wrap ((x1.Levels.length:Int) - 1)=((x1.Levels.length - 1:Nat):Int):=by
   rw [show ((x1.Levels.length:Int) - 1)=((x1.Levels.length - 1:Nat):Int) by omega]
   exact wr (by omega) (by omega)
  have c1:decide ((done.length:Int)≤IntKind.i64.wrap ((x1.Levels.length:Int) - 1))=false:=by rw [ew]; exact decide_eq_false (by omega)
  simp only [aT,c1,Bool.false_eq_true,if_false,jE]
 | L :: Ls,n,done,B,F,hn,hd,hD,h0,hB,hF,hL,hFl,hf=>by
  obtain ⟨n,rfl⟩:∃ m,n=m+1:=⟨n - 1,by omega⟩
  simp only [List.length_cons] at hn hd
  obtain ⟨hf1,hf2⟩:=hf
  simp only at hf1 hf2
  have hpl:=hz.pl
  have hpc:=fy r.Pats
  have ew:IntKind.i64.wrap ((x1.Levels.length:Int) - 1)=((x1.Levels.length - 1:Nat):Int):=by
   rw [show ((x1.Levels.length:Int) - 1)=((x1.Levels.length - 1:Nat):Int) by omega]
   exact wr (by omega) (by omega)
  have c1:decide ((done.length:Int)≤IntKind.i64.wrap ((x1.Levels.length:Int) - 1))=true:=by rw [ew]; exact decide_eq_true (by omega)
  obtain ⟨a,i,b,ha,hi,hiA,hb,hbf⟩:=hA done.length (by omega)
  have hml:=uk s.Items (pos r.Pats) (neg r.Pats) id done.length B F (A done.length)
  have hmi:=Ai (xs:=s.Items) (ps:=pos r.Pats) (ns:=neg r.Pats) (id:=id) (A:=A done.length) hB hF
  have hfin:=EU (xs:=s.Items) (ps:=pos r.Pats) (ns:=neg r.Pats) (id:=id) (A:=A done.length) (fun e=>(h0 e).2) hB hF
  have hsok:=Fx (xs:=s.Items) (ps:=pos r.Pats) (id:=id) (A:=A done.length) hB hF
  have hsl:(uz s.Items (pos r.Pats) id done.length B F (A done.length)).length=(gp s.Items (pos r.Pats) (neg r.Pats) id done.length B F (A done.length)).length:=by rw [← hfin,List.length_map]
  have key:∀ M,M=uz s.Items (pos r.Pats) id done.length B F (A done.length)→bp N r s x1 (done++L :: Ls) (done.length:Int) (aT N r c m at_ s id thr x1 n) N M 0=some ⟨m.Alphas,m.Rules.set at_.toNat ⟨done++jE s.Items (pos r.Pats) (neg r.Pats) id A done.length (L :: Ls) B F⟩⟩:=by
   intro M hM
   subst hM
   rw [Hz hN r s hz x1 done L Ls _ hx (by omega) hpp _ hsok (by omega),hfin]
   have:=Ed hN r s hz c m at_ id thr x1 hx hx1 hpp A hAl hA Ls n (done++[⟨L.Toks++gp s.Items (pos r.Pats) (neg r.Pats) id done.length B F (A done.length)⟩]) L.Toks (gp s.Items (pos r.Pats) (neg r.Pats) id done.length B F (A done.length)) (by omega) (by simp; omega)
    (fun _=>⟨done,rfl⟩) (fun e=>by simp at e) (fun t ht=>by have:=hL 0 L rfl t ht; simpa using this) (fun t ht=>by simpa using hmi t ht) (fun j M hj t ht=>by have:=hL (j+1) M (by simpa using hj) t ht; simp only [List.length_append,List.length_cons,List.length_nil]; omega) (by omega)
    (by simp only [List.length_append,List.length_cons,List.length_nil]; exact uf hf2 (Nat.le_refl _) hml)
   simp only [List.length_append,List.length_cons,List.length_nil,Nat.zero_add,List.append_assoc,List.cons_append,List.nil_append] at this
   exact this
  simp only [aT,c1,if_true]
  by_cases hk0:done.length=0
  ·obtain ⟨rfl,rfl⟩:=h0 hk0
   have c2:decide ((done.length:Int)=0)=true:=decide_eq_true (by omega)
   have c3:decide ((0:Int) < (done.length:Int))=false:=decide_eq_false (by omega)
   have ha0:idx c.Pos 0=some a:=by rw [← ha,hk0]; rfl
   have h1:=sm s.Items (pos r.Pats) [] id
   have fin:∀ u0,u0=iZ s.Items (pos r.Pats) [] id→fb N r c m s id thr x1 (done++L :: Ls) [] (done.length:Int) (aT N r c m at_ s id thr x1 n) u0=some ⟨m.Alphas,m.Rules.set at_.toNat ⟨done++jE s.Items (pos r.Pats) (neg r.Pats) id A done.length (L :: Ls) [] []⟩⟩:=by
    intro u0 hu
    unfold fb gm
    rw [c3]
    simp only [Bool.false_eq_true,if_false]
    have hul:u0.length≤1:=by rw [hu]; exact h1
    have:=DT hN r s hz c m id thr x1 done L Ls (aT N r c m at_ s id thr x1 n) done.length rfl [] [] a i b ha hi hb hbf (fun e=>absurd hk0 e) (fun _=>rfl) (by omega) (by simp) (by simp) (by rw [hiA]; exact hAl _) (by simp) u0 (by simp; omega)
    simp only [List.length_nil,Int.natCast_zero] at this
    have h5:cI N r c m s id thr x1 (done++L :: Ls) [] (done.length:Int) (aT N r c m at_ s id thr x1 n) 0 N u0 0=_:=this
    rw [h5]
    exact key _ (by unfold uz; rw [if_pos hk0,hu]; simp)
   simp only [c2,if_true,ha0,hb,Option.bind_some]
   cases b with
   | true=>
    simp only [if_true,Df hN r s hz [] [] id (by simp; omega) (by simp),Option.bind_some]
    exact fin _ (by simp)
   | false=>
    simp only [Bool.false_eq_true,if_false]
    exact fin _ (hbf rfl [] (by simp [hk0])).symm
  ·have c2:decide ((done.length:Int)=0)=false:=decide_eq_false (by omega)
   have c3:decide ((0:Int) < (done.length:Int))=true:=decide_eq_true (by omega)
   obtain ⟨D',hD'⟩:=hD hk0
   have ew2:IntKind.i64.wrap ((done.length:Int) - 1)=((done.length - 1:Nat):Int):=by
    rw [show ((done.length:Int) - 1)=((done.length - 1:Nat):Int) by omega]
    exact wr (by omega) (by omega)
   have e1:idx (done++L :: Ls) ((done.length - 1:Nat):Int)=some ⟨B++F⟩:=by
    rw [hD',List.append_assoc,kK]
    simp
   rw [if_neg hk0] at hf1
   have hBl:B.length≤4294967296:=by omega
   have e2:IntKind.i64.wrap (((B++F).length:Int) - (F.length:Int))=(B.length:Int):=by
    rw [List.length_append,show (((B.length+F.length:Nat):Int) - (F.length:Int))=(B.length:Int) by omega]
    exact wr (by omega) (by omega)
   simp only [c2,Bool.false_eq_true,if_false,Option.bind_some,fb,c3,if_true,ew2,e1,e2,gm]
   rw [DT hN r s hz c m id thr x1 done L Ls _ done.length rfl B F a i b ha hi hb hbf (fun _=>⟨D',hD'⟩) (fun e=>absurd e hk0) (by omega) hB hF (by rw [hiA]; exact hAl _) hFl [] (by rw [hiA]; simp; omega)]
   exact key _ (by unfold uz; rw [if_neg hk0,hiA]; simp)
theorem A1 {b0:List aB}:∀ (as:List bk) (vs:List aP) (s:List aB) (pre:List aP),(cV b0 as vs s).2=true→as.length=vs.length→iA (pre++vs) (ats pre.length as) (iO as)=true
 | [],vs,s,pre,_,_=>rfl
 | a :: as,[],s,pre,_,hl=>by simp at hl
 | a :: as,v :: vs,s,pre,h,hl=>by
  have hl':as.length=vs.length:=by simpa using hl
  have next:∀ s',(cV b0 as vs s').2=true→iA (pre++v :: vs) (ats (pre.length+1) as) (iO as)=true:=fun s' h'=>by
   have:=A1 as vs s' (pre++[v]) h' hl'
   simpa using this
  unfold cV at h
  unfold ats iO
  by_cases k2:a.K=2
  ·rw [if_pos k2] at h
   rw [if_pos k2,if_pos k2]
   by_cases he:bb a.V v=true
   ·rw [if_pos he] at h
    rw [jK,decide_eq_true_eq] at he
    unfold iA
    have e1:idx (pre++v :: vs) (pre.length:Int)=some a.V:=by
     rw [ag (show pre.length < (pre++v :: vs).length by simp),he]; simp
    rw [next s h,e1,decide_eq_true (show (0:Int)≤(pre.length:Int) by omega),decide_eq_true (show (pre.length:Int) < ((pre++v :: vs).length:Int) by simp; omega)]
    simp
   ·rw [if_neg he] at h; cases h
  ·rw [if_neg k2] at h
   rw [if_neg k2,if_neg k2]
   split at h
   ·split at h
    ·split at h
     ·exact next s h
     ·cases h
    ·exact next _ h
   ·exact next s h
theorem BR {p:ao} {f:av} {b:List aB} (h:(bM p f b).2=true):et (aI p) f=true:=by
 unfold bM at h
 split at h
 ·rename_i hc
  have:=A1 p.Args f.Fields b [] h hc.2
  have hk:seq f.Kind p.Kind=true:=by
   have:=hc.1
   rw [dB,decide_eq_true_eq] at this ⊢
   exact this.symm
  show ((seq f.Kind p.Kind && decide ((f.Fields.length:Int)=(p.Args.length:Int))) && iA f.Fields (ats 0 p.Args) (iO p.Args))=true
  rw [hk,decide_eq_true (show (f.Fields.length:Int)=(p.Args.length:Int) by omega)]
  simpa using this
 ·cases h
theorem Gm {N:Nat} (hN:1099000000000≤N) (a:aj) (f:av) (h:a.At.length≤1048576) (hf:f.Fields.length≤1048576):oL N a f=some (et a f):=by
 have hwr:IntKind.i64.wrap ((f.Fields.length:Int) - 1)=(f.Fields.length:Int) - 1:=wr (by omega) (by omega)
 have lp:∀ (n i:Nat),i≤a.At.length→a.At.length - i < n→fQ N a f n i=some (iA f.Fields (a.At.drop i) (a.Consts.drop i)):=by
  intro n
  induction n with
  | zero=>intro i _ h; omega
  | succ n ih=>
   intro i hi hn
   simp only [fQ,in0,Option.bind_some,hwr]
   by_cases hlt:i < a.At.length
   ·have c1:decide ((i:Int) < (a.At.length:Int))=true:=decide_eq_true (by omega)
    rw [List.drop_eq_getElem_cons hlt]
    simp only [c1,if_true,ag hlt,Option.bind_some,wr1 i (by omega),ih (i+1) (by omega) (by omega)]
    by_cases hc:i < a.Consts.length
    ·have c2:decide ((a.Consts.length:Int)≤(i:Int))=false:=decide_eq_false (by omega)
     rw [List.drop_eq_getElem_cons hc,iA]
     by_cases h0:a.At[i] < 0
     ·simp [show ¬ a.Consts.length≤i by omega,show ¬ 0≤a.At[i] by omega]
     ·by_cases h1:(f.Fields.length:Int)≤a.At[i]
      ·simp [show ¬ a.Consts.length≤i by omega,show 0≤a.At[i] by omega,show ¬ a.At[i]≤(f.Fields.length:Int) - 1 by omega,show ¬ a.At[i] < (f.Fields.length:Int) by omega]
      ·obtain ⟨j,hj⟩:∃ j:Nat,a.At[i]=(j:Int):=⟨a.At[i].toNat,by omega⟩
       have hjl:j < f.Fields.length:=by omega
       rw [hj]
       rw [hj] at h0 h1
       have hj1:(j:Int)≤(f.Fields.length:Int) - 1:=by omega
       have hj0:(0:Int)≤(j:Int):=by omega
       simp only [hj0,hj1,decide_true,Bool.and_self,Bool.not_true,c2,decide_false,Bool.false_eq_true,if_false,Option.bind_some,ag hjl,ag hc,jK,Option.some.injEq]
       by_cases he:f.Fields[j]=a.Consts[i] <;> simp [he,hjl]
    ·have c2:decide ((a.Consts.length:Int)≤(i:Int))=true:=decide_eq_true (by omega)
     rw [List.drop_of_length_le (show a.Consts.length≤i by omega),iA]
     simp [show a.Consts.length≤i by omega]
   ·have c1:decide ((i:Int) < (a.At.length:Int))=false:=decide_eq_false (by omega)
    rw [List.drop_of_length_le (show a.At.length≤i by omega)]
    simp only [c1,Bool.false_eq_true,if_false,iA]
 have l0:=lp N 0 (by omega) (by omega)
 rw [List.drop_zero,List.drop_zero,show ((0:Nat):Int)=0 from rfl] at l0
 unfold oL et
 rw [l0]
 have hk:seq a.Kind f.Kind=seq f.Kind a.Kind:=by rw [dB,dB]; simp [eq_comm]
 rw [hk]
 have hd:decide (a.N=(f.Fields.length:Int))=decide ((f.Fields.length:Int)=a.N):=by rw [decide_eq_decide]; exact eq_comm
 rw [hd]
 cases seq f.Kind a.Kind <;> cases decide ((f.Fields.length:Int)=a.N) <;> simp
theorem rX {xs:List an} {id:Int}:∀ (ps:List ao) (row:List Int) (l:List aB),(cD xs (ps.take (row.length+1)) (row++[id]) l).2=true→∃ p,ps[row.length]?=some p∧et (aI p) (aH xs id).1=true
 | [],row,l,h=>by
  cases row <;> simp [cD] at h
 | p :: ps,[],l,h=>by
  simp only [List.length_nil,Nat.zero_add,List.take_succ_cons,List.nil_append,cD] at h
  split at h
  ·rename_i hc
   exact ⟨p,rfl,BR hc.2⟩
  ·cases h
 | p :: ps,v :: row,l,h=>by
  simp only [List.length_cons,List.take_succ_cons,List.cons_append,cD] at h
  split at h
  ·have:=rX ps row _ h
   simpa using this
  ·cases h
theorem EX {xs:List an} {ps:List ao} {row:List Int} {id:Int} {p:ao} (hp:ps[row.length]?=some p) (h:et (aI p) (aH xs id).1=false):iZ xs ps row id=[]:=by
 unfold iZ
 rw [if_neg]
 intro hk
 unfold okB at hk
 rw [List.length_append,List.length_cons,List.length_nil,Nat.zero_add] at hk
 obtain ⟨q,hq,h2⟩:=rX ps row [] hk
 rw [hp] at hq
 cases hq
 rw [h] at h2
 cases h2
theorem Jo {N:Nat} (hN:1099000000000≤N) (r:ac) (c:aC) (m:aJ) (at_:Int) (s:ae) (id:Int) (thr:List Bool) (row:aF) (hz:SzS r s) (hpp:(pos r.Pats).length=ah r.Pats) (hrow:idx m.Rules at_=some row) (ok:Cv m.Alphas r c row)
  (hir:∀ L,row.Levels[row.Levels.length - 1]?=some L→∀ t∈L.Toks,∀ x∈t.Hits,InR x)
  (hthr:∀ k,k < row.Levels.length→∃ a i b,idx c.Pos (k:Int)=some a∧idx m.Alphas a=some i∧idx thr a=some b∧(b=false→∀ row:List Int,row.length=k→iZ s.Items (pos r.Pats) row id=[])) :
  m3 N r c m at_ s id (aH s.Items id).1 thr=some ⟨m.Alphas,m.Rules.set at_.toNat ⟨(oD s.Items m.Alphas (aH s.Items id).1 id r c row).Levels⟩⟩:=by
 have hne:=ok.ne
 have hll:=ok.ll
 have hpl:=hz.pl
 have hpc:=fy r.Pats
 have ew:IntKind.i64.wrap ((row.Levels.length:Int) - 1)=((row.Levels.length - 1:Nat):Int):=by
  rw [show ((row.Levels.length:Int) - 1)=((row.Levels.length - 1:Nat):Int) by omega]
  exact wr (by omega) (by omega)
 have hlt:row.Levels.length - 1 < row.Levels.length:=by omega
 have hL:row.Levels[row.Levels.length - 1]?=some row.Levels[row.Levels.length - 1]:=List.getElem?_eq_getElem hlt
 have hlen:(row.Levels[row.Levels.length - 1]).Toks.length≤4294967296:=BG ok.fit _ (List.mem_map.2 ⟨_,List.getElem_mem hlt,rfl⟩)
 have hset:=Cq (M:=iD s.Items (pos r.Pats) (neg r.Pats) (aH s.Items id).1 1 (row.Levels[row.Levels.length - 1]).Toks) hL (tW _)
 unfold m3
 rw [hrow,Option.bind_some,ew,ag hlt,Option.bind_some,Jr hN r s hz _ 1 (Or.inl rfl) _ hlen (fun t ht=>⟨by have:=ok.ids _ _ hL t ht; omega,ok.hit _ hL t ht,hir _ hL t ht⟩),Option.bind_some,Int.toNat_natCast]
 have h1:=Ed hN r s hz c m at_ id thr row hll hne hpp (ta m.Alphas c) ok.al
  (fun k hk=>by
   obtain ⟨a,i,b,h1,h2,h3,h4⟩:=hthr k hk
   exact ⟨a,i,b,h1,h2,ut h1 h2,h3,h4⟩)
  (row.Levels.set (row.Levels.length - 1) ⟨iD s.Items (pos r.Pats) (neg r.Pats) (aH s.Items id).1 1 (row.Levels[row.Levels.length - 1]).Toks⟩) N [] [] [] (by rw [List.length_set]; omega) (by simp) (fun e=>absurd rfl e) (fun _=>⟨rfl,rfl⟩) (by simp) (by simp)
  (fun i L hi t ht=>by
   rw [List.length_nil,Nat.zero_add,Nat.add_comm]
   rw [List.getElem?_set] at hi
   split at hi
   ·rename_i e; subst e
    ·simp only [Option.some.injEq] at hi
     subst hi
     have h1:=uh (xs:=s.Items) (ps:=pos r.Pats) (ns:=neg r.Pats) (f:=(aH s.Items id).1) (b:=1) (row.Levels[row.Levels.length - 1]).Toks
     have h2:t.Ids∈(row.Levels[row.Levels.length - 1]).Toks.map (·.Ids):=by rw [← h1]; exact List.mem_map.2 ⟨t,ht,rfl⟩
     obtain ⟨u,hu,e⟩:=List.mem_map.1 h2
     rw [← e]; exact ok.ids _ _ hL u hu
   ·exact ok.ids i L hi t ht)
  (by simp) (by rw [hset]; exact ok.fit)
 simp only [List.nil_append,List.length_nil,Int.natCast_zero] at h1
 have h2:aT N r c m at_ s id thr row N (row.Levels.set (row.Levels.length - 1) ⟨iD s.Items (pos r.Pats) (neg r.Pats) (aH s.Items id).1 1 (row.Levels[row.Levels.length - 1]).Toks⟩) [] 0=_:=h1
 rw [h2]
 unfold oD fE
 rw [hL]
theorem E4 {N:Nat} (hN:1099000000000≤N) (d:bh) (n:bB) (s:ae) (id:Int) (b:Bool) (as:List aQ) (thr:List Bool) (hlr:d.Rules.length≤1048576) :
  ∀ (ws:List aF) (rs:List ac) (cs:List aC) (k:Nat) (dr:List ac) (dc:List aC) (dw:List aF),ws.length < k→d.Rules=dr++rs→n.Chains=dc++cs→dr.length=dw.length→dc.length=dw.length→rs.length=ws.length→cs.length=ws.length →
   (∀ (i:Nat) (r:ac) (c:aC) (w:aF),rs[i]?=some r→cs[i]?=some c→ws[i]?=some w→SzS r s∧(pos r.Pats).length=ah r.Pats∧Cv as r c w∧(∀ L,w.Levels[w.Levels.length - 1]?=some L→∀ t∈L.Toks,∀ x∈t.Hits,InR x) ∧
    ∀ k,k < w.Levels.length→∃ a i b,idx c.Pos (k:Int)=some a∧idx as a=some i∧idx thr a=some b∧(b=false→∀ row:List Int,row.length=k→iZ s.Items (pos r.Pats) row id=[])) →
   eI N d n s id ((aH s.Items id).1,b) as thr k (dw++ws) (dw.length:Int)=some ⟨as,dw++mO (oD s.Items as (aH s.Items id).1 id) rs cs ws⟩
 | [],rs,cs,k,dr,dc,dw,hk,h1,h2,h4,h5,h6,h7,h8=>by
  obtain ⟨k,rfl⟩:∃ j,k=j+1:=⟨k - 1,by simp at hk; omega⟩
  have hr0:rs=[]:=List.length_eq_zero_iff.1 h6
  subst hr0
  have c1:decide ((dw.length:Int) < (d.Rules.length:Int))=false:=decide_eq_false (by rw [h1,← h4]; simp)
  simp only [eI,c1,Bool.false_eq_true,if_false,mO]
 | w :: ws,[],cs,k,dr,dc,dw,hk,h1,h2,h4,h5,h6,h7,h8=>by simp at h6
 | w :: ws,r :: rs,[],k,dr,dc,dw,hk,h1,h2,h4,h5,h6,h7,h8=>by simp at h7
 | w :: ws,r :: rs,c :: cs,k,dr,dc,dw,hk,h1,h2,h4,h5,h6,h7,h8=>by
  obtain ⟨k,rfl⟩:∃ j,k=j+1:=⟨k - 1,by omega⟩
  simp only [List.length_cons] at hk h6 h7
  have hdl:d.Rules.length=dw.length+(rs.length+1):=by rw [h1,← h4]; simp
  have c1:decide ((dw.length:Int) < (d.Rules.length:Int))=true:=decide_eq_true (by omega)
  obtain ⟨q1,q2,q3,q4,q5⟩:=h8 0 r c w rfl rfl rfl
  have e1:idx d.Rules (dw.length:Int)=some r:=by rw [h1,← h4]; exact dP _ _ _
  have e2:idx n.Chains (dw.length:Int)=some c:=by rw [h2,← h5]; exact dP _ _ _
  simp only [eI,c1,if_true,Option.bind_some,e1,e2]
  rw [Jo hN r c ⟨as,dw++w :: ws⟩ (dw.length:Int) s id thr w q1 q2 (dP _ _ _) q3 q4 q5]
  simp only [Option.bind_some,Int.toNat_natCast,lI,wr1 dw.length (by omega)]
  have:=E4 hN d n s id b as thr hlr ws rs cs k (dr++[r]) (dc++[c]) (dw++[⟨(oD s.Items as (aH s.Items id).1 id r c w).Levels⟩]) (by omega) (by rw [h1]; simp) (by rw [h2]; simp) (by simp [h4]) (by simp [h5]) (by omega) (by omega)
   (fun i r' c' w' a1 a2 a3=>h8 (i+1) r' c' w' (by simpa using a1) (by simpa using a2) (by simpa using a3))
  simp only [List.length_append,List.length_cons,List.length_nil,Nat.zero_add] at this
  rw [this,List.append_assoc]
  rfl
theorem DH {N:Nat} (hN:1099000000000≤N) (d:bh) (n:bB) (m:aJ) (s:ae) (id:Int) (f:av × Bool) (ha:∀ a∈n.Alphas,a.At.length≤1048576) (hl:n.Alphas.length≤1048576) (hf:f.1.Fields.length≤1048576) :
  ∀ (as:List aj) (k:Nat) (da:List aj) (di is:List aQ),as.length < k→n.Alphas=da++as→di.length=da.length→is.length=as.length→(∀ i∈is,i.L.length+1≤4294967296) →
   dW N d n m s id f k (di++is) (da.map fun a=>et a f.1) (da.length:Int)=eI N d n s id f (di++bS f.1 id as is) (n.Alphas.map fun a=>et a f.1) N m.Rules 0
 | [],k,da,di,is,hk,h1,h2,h3,h4=>by
  obtain ⟨k,rfl⟩:∃ j,k=j+1:=⟨k - 1,by simp at hk; omega⟩
  have c1:decide ((da.length:Int) < (n.Alphas.length:Int))=false:=decide_eq_false (by rw [h1]; simp)
  have e:n.Alphas=da:=by rw [h1]; simp
  simp only [dW,c1,Bool.false_eq_true,if_false,bS]
  rw [e]
 | a :: as,k,da,di,[],hk,h1,h2,h3,h4=>by simp at h3
 | a :: as,k,da,di,i :: is,hk,h1,h2,h3,h4=>by
  obtain ⟨k,rfl⟩:∃ j,k=j+1:=⟨k - 1,by omega⟩
  simp only [List.length_cons] at hk h3
  have hal:n.Alphas.length=da.length+(as.length+1):=by rw [h1]; simp
  have c1:decide ((da.length:Int) < (n.Alphas.length:Int))=true:=decide_eq_true (by omega)
  have e1:idx n.Alphas (da.length:Int)=some a:=by rw [h1]; exact dP _ _ _
  have e2:idx (di++i :: is) (da.length:Int)=some i:=by rw [← h2]; exact dP _ _ _
  have ham:a∈n.Alphas:=by rw [h1]; simp
  have hil:=h4 i (by simp)
  have ih:=fun y=>DH hN d n m s id f ha hl hf as k (da++[a]) (di++[y]) is (by omega) (by rw [h1]; simp) (by simp [h2]) (by omega) (fun j hj=>h4 j (by simp [hj]))
  simp only [List.length_append,List.length_cons,List.length_nil,Nat.zero_add,List.append_assoc,List.cons_append,List.nil_append,List.map_append,List.map_cons,List.map_nil] at ih
  simp only [dW,c1,if_true,e1,Option.bind_some,Gm hN a f.1 (ha a ham) hf,wr1 da.length (by omega),bS,bQ (show (da.map fun a=>et a f.1).length+[et a f.1].length≤4294967296 by simp; omega)]
  cases hp:et a f.1 with
  | true=>
   rw [hp] at ih
   simp only [if_true,e2,Option.bind_some,bQ (show i.L.length+[id].length≤4294967296 by simpa using hil)]
   have e3:(di++i :: is).set ((da.length:Int)).toNat (⟨i.L++[id]⟩:aQ)=di++⟨i.L++[id]⟩ :: is:=by
    rw [Int.toNat_natCast,← h2,lI,List.append_assoc]; rfl
   rw [e3]
   exact ih _
  | false=>
   rw [hp] at ih
   simp only [Bool.false_eq_true,if_false]
   exact ih i
theorem pn {f:av} {id:Int}:∀ (as:List aj) (is:List aQ),(bS f id as is).length=is.length
 | [],is=>by simp [bS]
 | a :: as,[]=>by simp [bS]
 | a :: as,i :: is=>by simp [bS,pn as is]
structure Fd (d:bh) (n:bB) (m:aJ) (s:ae) (id:Int):Prop where
 ok:I9 d n m s id
 ats:Ats n.Alphas n.Chains d.Rules
 rows:∀ (i:Nat) (r:ac) (w:aF),d.Rules[i]?=some r→m.Rules[i]?=some w→SzS r s∧(pos r.Pats).length=ah r.Pats∧∀ L,w.Levels[w.Levels.length - 1]?=some L→∀ t∈L.Toks,∀ x∈t.Hits,InR x
theorem KU {N:Nat} (hN:1099000000000≤N) (d:bh) (n:bB) (m:aJ) (s:ae) (id:Int) (h:Fd d n m s id):oS N d n m s id=some (AS d n m s id):=by
 have hal:=h.ok.al
 have hrl:=h.ok.rl
 have hld:=h.ok.ld
 have hla:=h.ok.la
 unfold oS
 rw [CC hN s id h.ok.sl h.ok.fl,Option.bind_some]
 have h1:=DH hN d n m s id (aH s.Items id) h.ok.at_ h.ok.al (DB h.ok.fl id) n.Alphas N [] [] m.Alphas (by omega) rfl rfl h.ok.la h.ok.il
 simp only [List.nil_append,List.length_nil,Int.natCast_zero,List.map_nil] at h1
 have h1':dW N d n m s id (aH s.Items id) N m.Alphas [] 0=_:=h1
 rw [h1']
 have h2:=E4 hN d n s id (aH s.Items id).2 (bS (aH s.Items id).1 id n.Alphas m.Alphas) (n.Alphas.map fun a=>et a (aH s.Items id).1) (by omega) m.Rules d.Rules n.Chains N [] [] [] (by omega) rfl rfl rfl rfl h.ok.ld h.ok.lc
  (fun i r c w g1 g2 g3=>by
   obtain ⟨q1,q2⟩:=h.ok.rows i r c w g1 g2 g3
   obtain ⟨q3,q4,q5⟩:=h.rows i r w g1 g3
   refine ⟨q3,q4,q2,q5,fun k hk=>?_⟩
   obtain ⟨hi,hr⟩:=List.getElem?_eq_some_iff.1 g1
   obtain ⟨hi',hc⟩:=List.getElem?_eq_some_iff.1 g2
   have hat:=(h.ats.get i hi' hi).1
   rw [hc,hr] at hat
   have hkp:k < (pos r.Pats).length:=by rw [← q2.ll]; exact hk
   have hkc:k < c.Pos.length:=by rw [hat.len]; exact hkp
   have e1:=hat.get k hkc hkp
   obtain ⟨a0,a1,e⟩:=a7 e1
   have hlt:c.Pos[k].toNat < (bS (aH s.Items id).1 id n.Alphas m.Alphas).length:=by
    rw [pn,hla]
    obtain ⟨q,_⟩:=List.getElem?_eq_some_iff.1 e
    exact q
   have ecp:c.Pos[k]=((c.Pos[k].toNat:Nat):Int):=by omega
   refine ⟨c.Pos[k],_,et (aI (pos r.Pats)[k]) (aH s.Items id).1,ag hkc,by rw [ecp]; exact ag hlt,?_,fun hb row hrow=>?_⟩
   ·have:(n.Alphas.map fun a=>et a (aH s.Items id).1)[c.Pos[k].toNat]?=some (et (aI (pos r.Pats)[k]) (aH s.Items id).1):=by
     rw [List.getElem?_map,e]; rfl
    unfold idx
    rw [if_pos a0]
    exact this
   ·exact EX (by rw [hrow]; exact List.getElem?_eq_getElem hkp) hb)
 simp only [List.nil_append,List.length_nil,Int.natCast_zero] at h2
 exact h2
def qw (c:aC):aF:=⟨List.replicate c.Pos.length ⟨[]⟩⟩
def j4 (p:bB):aJ:=⟨List.replicate p.Alphas.length ⟨[]⟩,p.Chains.map qw⟩
theorem Fv {N:Nat} (hN:1099000000000≤N) (p:bB) (ha:p.Alphas.length≤1048576) (hc:p.Chains.length≤1048576) (hp:∀ c∈p.Chains,c.Pos.length≤1048576):nP N p=some (j4 p):=by
 unfold nP j4
 rw [j0 _ (by omega),Option.bind_some]
 refine (lp' hN p.Chains (by omega) (fun n (u:List aF) i=>fO N p (List.replicate p.Alphas.length ⟨[]⟩) n u i) (fun t u=>some ⟨List.replicate p.Alphas.length ⟨[]⟩,u++t.map qw⟩) (fun u t=>u.length+t.length≤1048576) [] (by simpa using hc) (fun n u i c t g1 g2 g3 g4 g5 g6 gI gh=>?_) (fun n u i g1 g2 gI=>?_)).trans (by simp)
 ·simp only [List.length_cons] at gI
  have hm:=hp c g2
  simp only [fO,g5,if_true,g4,Option.bind_some,j0 _ (show c.Pos.length≤4294967296 by omega),bQ (show u.length+[(⟨List.replicate c.Pos.length ⟨[]⟩⟩:aF)].length≤4294967296 by simp; omega),g6]
  rw [gh _ (by simp; omega)]; simp [qw]
 ·simp only [fO,g2,Bool.false_eq_true,if_false]; simp
def Dm (ps ns:List ao) (i:Nat) (t:aa):Prop:=t.Ids.length=i+1∧t.Hits.length≤ns.length∧(i+1=ps.length→t.Hits.length=ns.length∧∀ x∈t.Hits,InR x)
def GA (ps ns:List ao) (j i:Nat) (L:ab):Prop:=L.Toks.length≤j*100 ^ i∧∀ t∈L.Toks,Dm ps ns i t
def Fh (r:ac) (j:Nat) (w:aF):Prop:=w.Levels.length=(pos r.Pats).length∧∀ i L,w.Levels[i]?=some L→GA (pos r.Pats) (neg r.Pats) j i L
theorem El {xs:List an} {ps ns:List ao} {row:List Int} {id:Int} (hx:xs.length≤1048576):∀ t∈mA xs ps ns row id,Dm ps ns row.length t:=by
 intro t ht
 unfold mA at ht
 split at ht
 ·simp only [List.mem_singleton] at ht
  subst ht
  refine ⟨by simp,?_,fun e=>?_⟩
  ·simp only
   split
   ·simp [eY]
   ·simp
  ·simp only [e,if_true]
   refine ⟨by simp [eY],fun x hx'=>?_⟩
   unfold eY at hx'
   obtain ⟨p,_,rfl⟩:=List.mem_map.1 hx'
   have:=Bt p (okB xs ps (row++[id])).1 xs
   exact wr (by omega) (by omega)
 ·cases ht
theorem uc {xs:List an} {ps ns:List ao} {row ids:List Int} (hx:xs.length≤1048576):∀ t∈ez xs ps ns row ids,Dm ps ns row.length t:=by
 intro t ht
 unfold ez at ht
 obtain ⟨v,_,h⟩:=List.mem_flatMap.1 ht
 exact El hx t h
theorem A3 {xs:List an} {ps ns:List ao} {id:Int} {k:Nat} {B F:List aa} {A:List Int} (hx:xs.length≤1048576) (hB:∀ t∈B,t.Ids.length=k) (hF:∀ t∈F,t.Ids.length=k):∀ t∈gp xs ps ns id k B F A,Dm ps ns k t:=by
 intro t ht
 unfold gp at ht
 split at ht
 ·rename_i e
  subst e
  exact uc hx t ht
 ·rcases List.mem_append.1 ht with ht | ht
  ·obtain ⟨u,hu,h⟩:=List.mem_flatMap.1 ht
   have:=uc hx t h
   rwa [hB u hu] at this
  ·obtain ⟨u,hu,h⟩:=List.mem_flatMap.1 ht
   have:=uc hx t h
   rwa [hF u hu] at this
theorem C9 {j k b f a:Nat} (hj:j≤40) (ha:a≤41) (h:k≠0→b≤j*100 ^ (k - 1)∧f≤100 ^ (k - 1)):(if k=0 then 1 else b+f*a)≤100 ^ k:=by
 split
 ·rename_i e; subst e; exact Nat.le_refl _
 ·rename_i e
  obtain ⟨k,rfl⟩:∃ m,k=m+1:=⟨k - 1,by omega⟩
  obtain ⟨h1,h2⟩:=h e
  simp only [Nat.add_sub_cancel] at h1 h2
  have h3:f*a≤100 ^ k*41:=Nat.mul_le_mul h2 ha
  have h4:j*100 ^ k≤40*100 ^ k:=Nat.mul_le_mul_right _ hj
  rw [Nat.pow_succ]
  omega
theorem A4 {xs:List an} {ps ns:List ao} {id:Int} {A:Nat→List Int} {j:Nat} (hj:j≤40) (hA:∀ k,(A k).length≤41) (hx:xs.length≤1048576):∀ (ls:List ab) (k:Nat) (B F:List aa),(k≠0→B.length≤j*100 ^ (k - 1)∧F.length≤100 ^ (k - 1))→(∀ t∈B,t.Ids.length=k)→(∀ t∈F,t.Ids.length=k) →
  (∀ i L,ls[i]?=some L→GA ps ns j (k+i) L)→(jE xs ps ns id A k ls B F).length=ls.length∧∀ i L,(jE xs ps ns id A k ls B F)[i]?=some L→GA ps ns (j+1) (k+i) L
 | [],k,B,F,h1,h2,h3,h4=>⟨rfl,fun i L h=>by simp [jE] at h⟩
 | M :: Ls,k,B,F,h1,h2,h3,h4=>by
  have hm:=Nat.le_trans (uk xs ps ns id k B F (A k)) (C9 hj (hA k) h1)
  have ht:=A3 (xs:=xs) (ps:=ps) (ns:=ns) (id:=id) (A:=A k) hx h2 h3
  have hM:=h4 0 M rfl
  obtain ⟨hM1,hM2⟩:=hM
  simp only [Nat.add_zero] at hM1 hM2
  have ih:=A4 (xs:=xs) (ps:=ps) (ns:=ns) (id:=id) (A:=A) hj hA hx Ls (k+1) M.Toks (gp xs ps ns id k B F (A k)) (fun _=>⟨by simpa using hM1,by simpa using hm⟩) (fun t h=>(hM2 t h).1) (fun t h=>(ht t h).1) (fun i L h=>by
   have:=h4 (i+1) L (by simpa using h)
   rwa [show k+(i+1)=k+1+i by omega] at this)
  unfold jE
  refine ⟨by simp [ih.1],fun i L h=>?_⟩
  cases i with
  | zero=>
   simp only [List.getElem?_cons_zero,Option.some.injEq] at h
   subst h
   refine ⟨?_,fun t h=>?_⟩
   ·simp only [List.length_append,Nat.add_zero,Nat.succ_mul]; omega
   ·rcases List.mem_append.1 h with h | h
    ·exact hM2 t h
    ·exact ht t h
  | succ i=>
   have:=ih.2 i L (by simpa using h)
   rwa [show k+1+i=k+(i+1) by omega] at this
theorem Hv (n:Int):InR (IntKind.i64.wrap n):=by
 have e1:(2:Int) ^ 64=18446744073709551616:=by decide
 have e2:(2:Int) ^ (64 - 1)=9223372036854775808:=by decide
 unfold InR
 apply wr
 ·simp only [IntKind.wrap,IntKind.bits,IntKind.signed,e1,e2,Bool.true_and,decide_eq_true_eq]
  split <;> omega
 ·simp only [IntKind.wrap,IntKind.bits,IntKind.signed,e1,e2,Bool.true_and,decide_eq_true_eq]
  split <;> omega
theorem CD {f:av} {l:List aB} {b:Int}:∀ (ns:List ao) (h:List Int),(∀ x∈h,InR x)→∀ x∈jG f l b ns h,InR x
 | p :: ns,y :: h,hh,x,hx=>by
  unfold jG at hx
  rcases List.mem_cons.1 hx with rfl | hx
  ·split
   ·exact Hv _
   ·exact hh y (by simp)
  ·exact CD ns h (fun z hz=>hh z (by simp [hz])) x hx
 | [],h,hh,x,hx=>by
  have:jG f l b [] h=h:=by cases h <;> rfl
  rw [this] at hx; exact hh x hx
 | p :: ns,[],hh,x,hx=>by simp [jG] at hx
theorem Es {xs:List an} {ps ns:List ao} {f:av} {b:Int} {i:Nat} {toks:List aa} (h:∀ t∈toks,Dm ps ns i t):∀ t∈iD xs ps ns f b toks,Dm ps ns i t:=by
 intro t ht
 unfold iD at ht
 obtain ⟨u,hu,rfl⟩:=List.mem_map.1 ht
 obtain ⟨h1,h2,h3⟩:=h u hu
 split
 ·exact ⟨h1,by simp only [ui]; exact h2,fun e=>⟨by simp only [ui]; exact (h3 e).1,CD _ _ (h3 e).2⟩⟩
 ·exact ⟨h1,h2,h3⟩
theorem B3 {xs:List an} {r:ac} {f:av} {b:Int} {j:Nat} {w:aF} (h:Fh r j w):Fh r j (fE xs (pos r.Pats) (neg r.Pats) f b w):=by
 obtain ⟨h1,h2⟩:=h
 unfold fE
 split
 ·rename_i L hL
  refine ⟨by simpa using h1,fun i M hM=>?_⟩
  simp only at hM
  rw [List.getElem?_set] at hM
  split at hM
  ·rename_i e
   split at hM
   ·simp only [Option.some.injEq] at hM
    subst hM
    subst e
    obtain ⟨a,b⟩:=h2 _ L hL
    exact ⟨by simpa [tW] using a,Es b⟩
   ·cases hM
  ·exact h2 i M hM
 ·exact ⟨h1,h2⟩
theorem xv {as:List aQ} {B:Nat} (h:∀ i∈as,i.L.length≤B) (c:aC) (k:Nat):(ta as c k).length≤B:=by
 unfold ta
 split
 ·split
  ·rename_i i hi
   obtain ⟨_,_,e⟩:=a7 hi
   exact h i (List.mem_of_getElem? e)
  ·simp
 ·simp
theorem EP {xs:List an} {as:List aQ} {f:av} {id:Int} {r:ac} {c:aC} {j:Nat} {w:aF} (hj:j≤40) (hA:∀ i∈as,i.L.length≤41) (hx:xs.length≤1048576) (h:Fh r j w):Fh r (j+1) (oD xs as f id r c w):=by
 obtain ⟨h1,h2⟩:=B3 (xs:=xs) (f:=f) (b:=1) h
 have:=A4 (xs:=xs) (ps:=pos r.Pats) (ns:=neg r.Pats) (id:=id) (A:=ta as c) hj (xv hA c) hx (fE xs (pos r.Pats) (neg r.Pats) f 1 w).Levels 0 [] [] (fun e=>absurd rfl e) (by simp) (by simp) (fun i L h=>by rw [Nat.zero_add]; exact h2 i L h)
 unfold oD
 exact ⟨by rw [this.1]; exact h1,fun i L h=>by have:=this.2 i L h; rwa [Nat.zero_add] at this⟩
theorem DW {A:Nat→Nat} {j:Nat} (hj:j≤40) (hA:∀ k,A k≤41):∀ (ls:List Nat) (k b f:Nat),(k≠0→b≤j*100 ^ (k - 1)∧f≤100 ^ (k - 1))→(∀ i l,ls[i]?=some l→l≤j*100 ^ (k+i))→k+ls.length≤4→AI A k ls b f
 | [],k,b,f,h1,h2,h3=>trivial
 | l :: ls,k,b,f,h1,h2,h3=>by
  simp only [List.length_cons] at h3
  have hm:=C9 hj (hA k) h1
  have hl:=h2 0 l rfl
  rw [Nat.add_zero] at hl
  have hp:100 ^ k≤1000000:=by
   have:100 ^ k≤100 ^ 3:=Nat.pow_le_pow_right (by omega) (by omega)
   simpa using this
  have hl':j*100 ^ k≤40*1000000:=Nat.mul_le_mul hj hp
  refine ⟨by omega,DW hj hA ls (k+1) l _ (fun _=>⟨by simpa using hl,by simpa using hm⟩) (fun i l' h=>?_) (by omega)⟩
  have:=h2 (i+1) l' (by simpa using h)
  rwa [show k+(i+1)=k+1+i by omega] at this
theorem t6 {g:ac→aC→aF→aF}:∀ (rs:List ac) (cs:List aC) (ws:List aF),rs.length=ws.length→cs.length=ws.length→(mO g rs cs ws).length=ws.length∧∀ (i:Nat) (v:aF),(mO g rs cs ws)[i]?=some v→∃ (r:ac) (c:aC) (w:aF),rs[i]?=some r∧cs[i]?=some c∧ws[i]?=some w∧v=g r c w
 | [],cs,[],_,_=>⟨by simp [mO],fun i v h=>by simp [mO] at h⟩
 | r :: rs,[],w :: ws,_,h=>by simp at h
 | r :: rs,c :: cs,w :: ws,h1,h2=>by
  have ih:=t6 (g:=g) rs cs ws (by simpa using h1) (by simpa using h2)
  unfold mO
  refine ⟨by simp [ih.1],fun i v h=>?_⟩
  cases i with
  | zero=>exact ⟨r,c,w,rfl,rfl,rfl,by simpa using h.symm⟩
  | succ i=>
   obtain ⟨a,b,c',e1,e2,e3,e4⟩:=ih.2 i v (by simpa using h)
   exact ⟨a,b,c',by simpa using e1,by simpa using e2,by simpa using e3,e4⟩
theorem rA {f:av} {id:Int} {B:Nat}:∀ (as:List aj) (is:List aQ),(∀ i∈is,i.L.length≤B)→∀ i∈bS f id as is,i.L.length≤B+1
 | [],is,h,i,hi=>by
  have:bS f id [] is=is:=by cases is <;> rfl
  rw [this] at hi
  have:=h i hi; omega
 | a :: as,[],h,i,hi=>by simp [bS] at hi
 | a :: as,y :: is,h,i,hi=>by
  unfold bS at hi
  rcases List.mem_cons.1 hi with rfl | hi
  ·have:=h y (by simp)
   split
   ·simpa using this
   ·omega
  ·exact rA as is (fun z hz=>h z (by simp [hz])) i hi
structure vV (d:bh) (n:bB) (j:Nat) (m:aJ):Prop where
 la:m.Alphas.length=n.Alphas.length
 lr:m.Rules.length=d.Rules.length
 al:∀ i∈m.Alphas,i.L.length≤j
 rows:∀ (i:Nat) (r:ac) (w:aF),d.Rules[i]?=some r→m.Rules[i]?=some w→Fh r j w
theorem wG {d:bh} {n:bB} {m:aJ} {s:ae} {id:Int} {j:Nat} (hj:j≤40) (hs:s.Items.length≤1048576) (hc:n.Chains.length=d.Rules.length) (h:vV d n j m):vV d n (j+1) (AS d n m s id):=by
 have h1:=rA (f:=(aH s.Items id).1) (id:=id) n.Alphas m.Alphas h.al
 have h2:=t6 (g:=oD s.Items (bS (aH s.Items id).1 id n.Alphas m.Alphas) (aH s.Items id).1 id) d.Rules n.Chains m.Rules h.lr.symm (by rw [hc,h.lr])
 refine ⟨?_,?_,h1,?_⟩
 ·show (bS _ _ _ _).length=_
  rw [pn]; exact h.la
 ·show (mO _ _ _ _).length=_
  rw [h2.1]; exact h.lr
 ·intro i r v e1 e2
  obtain ⟨r',c,w,a1,a2,a3,rfl⟩:=h2.2 i v e2
  rw [e1] at a1
  cases a1
  exact EP hj (fun y hy=>by have:=h1 y hy; omega) hs (h.rows i r w e1 a3)
theorem Dr {d:bh} {n:bB} (h:Ats n.Alphas n.Chains d.Rules):vV d n 0 (j4 n):=by
 unfold j4
 refine ⟨by simp,by simp [h.len],fun i hi=>?_,fun i r w e1 e2=>?_⟩
 ·rw [(List.mem_replicate.1 hi).2]; simp
 ·simp only [List.getElem?_map,Option.map_eq_some_iff] at e2
  obtain ⟨c,hc,rfl⟩:=e2
  obtain ⟨hi,hr⟩:=List.getElem?_eq_some_iff.1 e1
  obtain ⟨hi',hc⟩:=List.getElem?_eq_some_iff.1 hc
  have hat:=(h.get i hi' hi).1
  rw [hc,hr] at hat
  refine ⟨by simp only [qw,List.length_replicate]; exact hat.len,fun k L hL=>?_⟩
  simp only [qw] at hL
  obtain ⟨_,e⟩:=List.getElem?_eq_some_iff.1 hL
  rw [List.getElem_replicate] at e
  subst e
  exact ⟨by simp,by simp⟩
theorem FG {d:bh} {m:aJ} {s:ae} {id:Int} {j:Nat} (hd:qn d=true) (hsz:BZ d) (hs:s.Items.length≤40) (hf:∀ x∈s.Items,x.F.Fields.length≤1048576) (hj:j≤40) (h:vV d (cm d) j m):Fd d (cm d) m s id:=by
 have hnd:=si hd
 obtain ⟨_,hats,hal⟩:=tx hnd
 obtain ⟨⟨z1,z2⟩,z3,z4⟩:=wP hnd
 have hA:=rA (f:=(aH s.Items id).1) (id:=id) (cm d).Alphas m.Alphas h.al
 have hA':∀ i∈bS (aH s.Items id).1 id (cm d).Alphas m.Alphas,i.L.length≤41:=fun i hi=>by have:=hA i hi; omega
 have hrl:d.Rules.length≤1048576:=hsz.2.1
 have hr:∀ r∈d.Rules,r.Pats.length≤6∧1≤(pos r.Pats).length∧(pos r.Pats).length≤3∧(pos r.Pats).length=ah r.Pats∧pos r.Pats=r.Pats.take (ah r.Pats)∧eC r.Pats≤1048576∧∀ p∈r.Pats,p.Args.length≤1048576:=fun r hr=>by
  have ho:=qK hd r hr
  have hp:iP r.Pats=true:=by
   unfold lv at ho
   simp only [Bool.and_eq_true] at ho
   exact ho.2.2.1
  have hfl:=Cd hp
  have hfc:(pos r.Pats).length=ah r.Pats:=oJ r.Pats
  unfold iP at hp
  simp only [Bool.and_eq_true,decide_eq_true_eq] at hp
  obtain ⟨⟨_,p1⟩,⟨p2,p3⟩,_⟩:=hp
  obtain ⟨_,⟨_,g1⟩,_,_,g2,_⟩:=hsz.2.2 r hr
  exact ⟨p1,by omega,by omega,hfc,hfl,g2,fun p hp=>(g1 p hp).2.1⟩
 have hmem:∀ (i:Nat) (r:ac),d.Rules[i]?=some r→r∈d.Rules:=fun i r e=>List.mem_of_getElem? e
 refine ⟨⟨by omega,hf,fun a ha=>(z2 a ha).2,z1,by rw [h.lr]; exact hrl,h.la,by rw [hats.len,h.lr],h.lr.symm,fun i hi=>by have:=h.al i hi; omega,fun i r c w g1 g2 g3=>?_⟩,hats,fun i r w g1 g3=>?_⟩
 ·obtain ⟨q1,q2,q3,q4,q5,q6,q7⟩:=hr r (hmem i r g1)
  obtain ⟨k1,k2⟩:=h.rows i r w g1 g3
  refine ⟨⟨by omega,q6,q7⟩,⟨by omega,k1,fun i L hL t ht=>((k2 i L hL).2 t ht).1,fun L hL t ht=>(((k2 _ L hL).2 t ht).2.2 (by omega)).1,fun k hk=>?_,?_,fun k=>by have:=xv hA' c k; omega⟩⟩
  ·obtain ⟨hi,hrr⟩:=List.getElem?_eq_some_iff.1 g1
   obtain ⟨hi',hcc⟩:=List.getElem?_eq_some_iff.1 g2
   have hat:=(hats.get i hi' hi).1
   rw [hcc,hrr] at hat
   have hkp:k < (pos r.Pats).length:=by omega
   have hkc:k < c.Pos.length:=by rw [hat.len]; exact hkp
   have e1:=hat.get k hkc hkp
   obtain ⟨a0,a1,e⟩:=a7 e1
   obtain ⟨q,_⟩:=List.getElem?_eq_some_iff.1 e
   have hlt:c.Pos[k].toNat < (bS (aH s.Items id).1 id (cm d).Alphas m.Alphas).length:=by rw [pn,h.la]; exact q
   have ecp:c.Pos[k]=((c.Pos[k].toNat:Nat):Int):=by omega
   exact ⟨c.Pos[k],_,ag hkc,by rw [ecp]; exact ag hlt⟩
  ·refine DW hj (xv hA' c) _ 0 0 0 (fun e=>absurd rfl e) (fun i l hl=>?_) (by simp; omega)
   rw [List.getElem?_map,Option.map_eq_some_iff] at hl
   obtain ⟨L,hL,rfl⟩:=hl
   rw [Nat.zero_add]
   exact (k2 i L hL).1
 ·obtain ⟨q1,q2,q3,q4,q5,q6,q7⟩:=hr r (hmem i r g1)
  obtain ⟨k1,k2⟩:=h.rows i r w g1 g3
  exact ⟨⟨by omega,q6,q7,by omega,hf,q5⟩,q4,fun L hL t ht=>(((k2 _ L hL).2 t ht).2.2 (by omega)).2⟩
theorem GG {N:Nat} (p:bB) (s3:List aF) (s4:Nat) (K:List aF→Int→Option aJ) (h4:s4 < p.Chains.length) (hl:p.Chains[s4].Pos.length≤1048576) (hs:s3.length≤s4) (hc:p.Chains.length≤1048576):∀ (n i:Nat),i≤p.Chains[s4].Pos.length→p.Chains[s4].Pos.length - i < n →
  ik N p s3 s4 K n (List.replicate i ⟨[]⟩) i=K (s3++[qw p.Chains[s4]]) ((s4+1:Nat):Int):=by
 intro n
 induction n with
 | zero=>intro i _ h; omega
 | succ n ih=>
  intro i hi hn
  simp only [ik,ag h4,Option.bind_some]
  by_cases hlt:i < p.Chains[s4].Pos.length
  ·have c1:decide ((i:Int) < (p.Chains[s4].Pos.length:Int))=true:=decide_eq_true (by omega)
   simp only [c1,if_true,bQ (show (List.replicate i (⟨[]⟩:ab)).length+[(⟨[]⟩:ab)].length≤4294967296 by simp; omega),Option.bind_some,wr1 i (by omega)]
   have:=ih (i+1) (by omega) (by omega)
   rw [List.replicate_succ'] at this
   exact this
  ·have c1:decide ((i:Int) < (p.Chains[s4].Pos.length:Int))=false:=decide_eq_false (by omega)
   have hi':i=p.Chains[s4].Pos.length:=by omega
   simp only [c1,Bool.false_eq_true,if_false,bQ (show s3.length+[(⟨List.replicate i ⟨[]⟩⟩:aF)].length≤4294967296 by simp; omega),Option.bind_some,wr1 s4 (by omega)]
   rw [hi']; rfl
theorem GT {N:Nat} (hN:1099000000000≤N) (p:bB) (as:List aQ) (hc:p.Chains.length≤1048576) (hp:∀ c∈p.Chains,c.Pos.length≤1048576):∀ (n i:Nat),i≤p.Chains.length→p.Chains.length - i < n →
  dX N p as n ((p.Chains.take i).map qw) i=some ⟨as,p.Chains.map qw⟩:=by
 intro n
 induction n with
 | zero=>intro i _ h; omega
 | succ n ih=>
  intro i hi hn
  simp only [dX]
  by_cases hlt:i < p.Chains.length
  ·have c1:decide ((i:Int) < (p.Chains.length:Int))=true:=decide_eq_true (by omega)
   have hm:=hp _ (List.getElem_mem hlt)
   have:=GG (N:=N) p ((p.Chains.take i).map qw) i (dX N p as n) hlt hm (by simp; omega) hc N 0 (by omega) (by omega)
   have ih1:=ih (i+1) (by omega) (by omega)
   have ht:(p.Chains.take (i+1)).map qw=(p.Chains.take i).map qw++[qw p.Chains[i]]:=by
    rw [List.take_succ_eq_append_getElem hlt,List.map_append]; rfl
   rw [ht] at ih1
   simp only [c1,if_true]; rw [← ih1]; exact this
  ·have c1:decide ((i:Int) < (p.Chains.length:Int))=false:=decide_eq_false (by omega)
   simp only [c1,Bool.false_eq_true,if_false]
   rw [List.take_of_length_le (by omega)]
theorem GV {N:Nat} (p:bB) (ha:p.Alphas.length≤1048576):∀ (n i:Nat),i≤p.Alphas.length→p.Alphas.length - i < n →
  ic N p n (List.replicate i ⟨[]⟩) i=dX N p (List.replicate p.Alphas.length ⟨[]⟩) N [] 0:=by
 intro n
 induction n with
 | zero=>intro i _ h; omega
 | succ n ih=>
  intro i hi hn
  simp only [ic]
  by_cases hlt:i < p.Alphas.length
  ·have c1:decide ((i:Int) < (p.Alphas.length:Int))=true:=decide_eq_true (by omega)
   simp only [c1,if_true,bQ (show (List.replicate i (⟨[]⟩:aQ)).length+[(⟨[]⟩:aQ)].length≤4294967296 by simp; omega),Option.bind_some,wr1 i (by omega)]
   have:=ih (i+1) (by omega) (by omega)
   rw [List.replicate_succ'] at this
   exact this
  ·have c1:decide ((i:Int) < (p.Alphas.length:Int))=false:=decide_eq_false (by omega)
   have hi':i=p.Alphas.length:=by omega
   simp only [c1,Bool.false_eq_true,if_false]
   rw [hi']
theorem Fj {N:Nat} (hN:1099000000000≤N) (p:bB) (ha:p.Alphas.length≤1048576) (hc:p.Chains.length≤1048576) (hp:∀ c∈p.Chains,c.Pos.length≤1048576):oY N p=some (j4 p):=by
 have a:=GV (N:=N) p ha N 0 (by omega) (by omega)
 have b:=GT hN p (List.replicate p.Alphas.length ⟨[]⟩) hc hp N 0 (by omega) (by omega)
 unfold oY j4; exact a.trans b
def sZ (f:av):Bool:=fm f.Kind && (f.Fields.all sO && decide (f.Fields.length≤5))
def CN (f:av):Prop:=f.Kind.size≤1048576∧f.Fields.length≤1048576∧∀ v∈f.Fields,v.S.size≤1048576
def BL (s:ae):Prop:=s.Items.length≤1048576∧∀ x∈s.Items,CN x.F
def ge (done:List an) (v:Int):Bool:=match done.getLast? with | none=>true | some y=>decide (y.Id < v)
def lM (nx:Int):List an→List an→Bool
 | _,[]=>true
 | done,x :: t=>(sZ x.F && (decide (1≤x.Id) && decide (x.Id < nx))) && (ge done x.Id && ((done.all fun y=>!decide (x.F=y.F)) && lM nx (done++[x]) t))
def pf (s:ae):Bool:=(decide (1≤s.Next) && decide (s.Next≤1000000)) && (decide (s.Items.length≤40) && lM s.Next [] s.Items)
theorem CA {α:Type} {xs:List α} {i:Nat} (h:0 < i) (h':i≤xs.length):(xs.take i).getLast?=some (xs[i - 1]'(by omega)):=by
 rw [List.getLast?_eq_getElem?,List.length_take,Nat.min_eq_left h',List.getElem?_take_of_lt (by omega),List.getElem?_eq_getElem (by omega)]
theorem FN {N:Nat} (hN:1099000000000≤N) (x y:List aP) (hl:x.length≤4294967296):fW N x y=some (decide (x=y)):=by
 unfold fW
 by_cases c:x.length=y.length
 ·rw [if_neg (by simp; omega)]
  refine (it (d9 N x y) x y c (by omega) (fun a b=>some (decide (a=b))) (fun a _ b _=>rfl) (fun k i=>by simp only [d9,jK,Option.bind_some]) N 0 (by omega) (by omega)).trans ?_
  simp
 ·rw [if_pos (by simp; omega)]
  have : ¬ x=y:=fun e=>c (by rw [e])
  simp [this]
theorem H7 {N:Nat} (hN:1099000000000≤N) (x y:av) (hl:x.Fields.length≤4294967296):kI N x y=some (decide (x=y)):=by
 unfold kI
 simp only [FN hN _ _ hl,Option.bind_some,n9,dB]
 obtain ⟨a,b⟩:=x; obtain ⟨c,d⟩:=y
 simp only [av.mk.injEq,Bool.decide_and]
def En (xs:List an) (f:av):Int:=match xs.find? (fun x=>decide (x.F=f)) with | some x=>x.Id | none=>0
theorem u9 (x:an) (xs:List an) (f:av):En (x :: xs) f=if x.F=f then x.Id else En xs f:=by
 unfold En
 rw [List.find?_cons]
 by_cases h:x.F=f <;> simp [h]
theorem J0 {N:Nat} (hN:1099000000000≤N) (s:ae) (f:av) (hl:s.Items.length≤1048576) (hx:∀ x∈s.Items,x.F.Fields.length≤1048576):rC N s f=some (En s.Items f):=by
 unfold rC
 refine lp0 hN s.Items (by omega) (gy N s f) (fun t=>some (En t f)) (fun n i x t h1 h2 h3 h4 h5 h6 h7=>?_) (fun n i h1 h2=>?_)
 ·simp only [gy,h5,if_true,h4,Option.bind_some,H7 hN x.F f (by have:=hx x h2; omega),h6,h7,u9]
  by_cases h:x.F=f <;> simp [h]
 ·simp only [gy,h2,Bool.false_eq_true,if_false]; rfl
end Go.Proofs.YtiljnppocjgkkaaGreat
