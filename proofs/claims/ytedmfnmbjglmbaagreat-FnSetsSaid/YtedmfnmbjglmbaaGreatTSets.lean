/- Plain laws, one after the other: PLSets. -/
import Derived.Test.YtedmfnmbjglmbaaGreatPLib
import Derived.Test.YtedmfnmbjglmbaaGreatWSetsPur
import Derived.Test.YtedmfnmbjglmbaaGreatWSetsMod
/-
 Plain laws of common loops, for the cores. No program.
-/
namespace Go.Proofs.YtedmfnmbjglmbaaGreat
open Eng
set_option linter.unusedVariables false
set_option linter.unusedSimpArgs false
theorem bD {α:Type} {xs a:List α} (h:xs.length+a.length≤4294967296):app xs a=some (xs++a):=by unfold app;rw[if_pos h]
theorem dY {α:Type} {a:List α} (h:a.length≤4294967296):app ([]:List α) a=some a:=by rw[bD (by simpa using h)];rfl
theorem wL {α:Type} (f:Nat→Int→Option Bool) (xs:List α) (e:xs.length≤4294967296) (p:α→Bool) (z:Bool) (i0:Nat)
  (b:∀ n (i:Nat) (x:α),i0≤i→idx xs (i:Int)=some x→x∈xs→decide ((i:Int) < (xs.length:Int))=true→IntKind.i64.wrap ((i:Int)+1)=((i+1:Nat):Int)→f (n+1) i=if p x then f n ((i+1:Nat):Int) else some false)
  (he:∀ n (i:Nat),decide ((i:Int) < (xs.length:Int))=false→f (n+1) i=some z) :
  ∀ (n i:Nat),i0≤i→i≤xs.length→xs.length - i < n→f n i=some ((xs.drop i).all p && z):=by
 intro n
 induction n with
 | zero=>intro i _ _ h;omega
 | succ n c=>
  intro i d g j
  by_cases a:i < xs.length
  ·rw[ho a,ix,b n i xs[i] d (an a) (hz a) (decide_eq_true MB) (wr1 i MB),c (i+1) MB MB MB]
   cases p xs[i] <;> simp
  ·rw[he n i (decide_eq_false MB),hy MB,Gs,hK]
theorem yE {α:Type} (f:Nat→Int→Option Int) (xs:List α) (d:xs.length≤4294967296) (p:α→Bool)
  (b:∀ n (i:Nat) (x:α),idx xs (i:Int)=some x→x∈xs→decide ((i:Int) < (xs.length:Int))=true→IntKind.i64.wrap ((i:Int)+1)=((i+1:Nat):Int)→f (n+1) i=if p x then some (i:Int) else f n ((i+1:Nat):Int))
  (he:∀ n (i:Nat),decide ((i:Int) < (xs.length:Int))=false→f (n+1) i=some (-1)) :
  ∀ (n i:Nat),i≤xs.length→xs.length - i < n→f n i=some (match (xs.drop i).findIdx? p with | some j=>((i+j:Nat):Int) | none=>-1):=by
 intro n
 induction n with
 | zero=>intro i _ h;omega
 | succ n c=>
  intro i e g
  by_cases a:i < xs.length
  ·rw[ho a,List.findIdx?_cons,b n i xs[i] (an a) (hz a) (decide_eq_true MB) (wr1 i MB),c (i+1) MB MB]
   cases p xs[i]
   ·simp only[gh,if_false]
    cases (xs.drop (i+1)).findIdx? p with
    | none=>rfl
    | some j=>simp only[Option.map_some];congr 2;omega
   ·simp
  ·rw[he n i (decide_eq_false MB),hy MB];rfl
theorem Hi {α:Type} (xs:List α) (p:α→Bool):decide (0≤(match xs.findIdx? p with | some j=>((0+j:Nat):Int) | none=>-1))=xs.any p:=by
 cases h:xs.findIdx? p with
 | none=>
  rw[MI] at h
  simp only[show ¬ (0:Int) ≤ -1 by omega,decide_false]
  symm;rw[List.any_eq_false];intro x a;simp[h x a]
 | some j=>
  simp only[ht,show (0:Int)≤(j:Int) by omega,decide_true]
  rw[MJ] at h
  obtain⟨b,hp,_⟩:=h
  symm;rw[List.any_eq_true];exact⟨_,hz b,hp⟩
theorem nK (a b:Bool):(if a=true then some b else some false)=some (a && b):=by cases a <;> rfl
theorem orS (a b:Bool):(if a=true then some true else some b)=some (a || b):=by cases a <;> rfl
end Go.Proofs.YtedmfnmbjglmbaaGreat
/-
 Plain laws of loops over lists, one law for all. No program.
-/
namespace Go.Proofs.YtedmfnmbjglmbaaGreat
open Eng
set_option linter.unusedVariables false
set_option linter.unusedSimpArgs false
theorem lp {σ α β:Type} (xs:List α) (k:xs.length≤4294967296) (f:Nat→σ→Int→Option β) (G:List α→σ→Option β) (I:σ→List α→Prop)
  (e:∀ n s (i:Nat) (x:α) (t:List α),xs.drop i=x :: t→x∈xs→i < xs.length→idx xs (i:Int)=some x→decide ((i:Int) < (xs.length:Int))=true→IntKind.i64.wrap ((i:Int)+1)=((i+1:Nat):Int)→I s (x :: t) →
   (∀ a,I a t→f n a ((i+1:Nat):Int)=G t a)→f (n+1) s i=G (x :: t) s)
  (he:∀ n s (i:Nat),i=xs.length→decide ((i:Int) < (xs.length:Int))=false→I s []→f (n+1) s i=G [] s) :
  ∀ (n i:Nat) (s:σ),i≤xs.length→xs.length - i < n→I s (xs.drop i)→f n s i=G (xs.drop i) s:=by
 intro n
 induction n with
 | zero=>intro i s _ h;omega
 | succ n g=>
  intro i s l m b
  by_cases c:i < xs.length
  ·have d:=ho c
   rw[d] at b ⊢
   exact e n s i _ _ d (hz c) c (an c) (decide_eq_true MB) (wr1 i MB) b (fun a j=>g (i+1) a MB MB j)
  ·have d:xs.drop i=[]:=hy MB
   rw[d] at b ⊢
   exact he n s i MB (decide_eq_false MB) b
theorem lp' {σ α β:Type} {N:Nat} (e:1099000000000≤N) (xs:List α) (b:xs.length≤4294967296) (f:Nat→σ→Int→Option β) (G:List α→σ→Option β) (I:σ→List α→Prop) (s:σ) (c:I s xs)
  (d:∀ n s (i:Nat) (x:α) (t:List α),xs.drop i=x :: t→x∈xs→i < xs.length→idx xs (i:Int)=some x→decide ((i:Int) < (xs.length:Int))=true→IntKind.i64.wrap ((i:Int)+1)=((i+1:Nat):Int)→I s (x :: t) →
   (∀ a,I a t→f n a ((i+1:Nat):Int)=G t a)→f (n+1) s i=G (x :: t) s)
  (he:∀ n s (i:Nat),i=xs.length→decide ((i:Int) < (xs.length:Int))=false→I s []→f (n+1) s i=G [] s):f N s 0=G xs s:=by
 have:=lp xs b f G I d he N 0 s MB MB (by simpa using c)
 simpa using this
theorem lp0 {α β:Type} {N:Nat} (b:1099000000000≤N) (xs:List α) (c:xs.length≤4294967296) (f:Nat→Int→Option β) (G:List α→Option β)
  (d:∀ n (i:Nat) (x:α) (t:List α),xs.drop i=x :: t→x∈xs→i < xs.length→idx xs (i:Int)=some x→decide ((i:Int) < (xs.length:Int))=true→IntKind.i64.wrap ((i:Int)+1)=((i+1:Nat):Int) →
   f n ((i+1:Nat):Int)=G t→f (n+1) i=G (x :: t))
  (he:∀ n (i:Nat),i=xs.length→decide ((i:Int) < (xs.length:Int))=false→f (n+1) i=G []):f N 0=G xs:=by
 have:=lp' (σ:=Unit) b xs c (fun n _ i=>f n i) (fun t _=>G t) (fun _ _=>True) () trivial (fun n _ i x t h1 a e g h j _ k=>d n i x t h1 a e g h j (k () trivial)) (fun n _ i h1 a _=>he n i h1 a)
 simpa using this
theorem Mr (a b:Bool):(if (!a)=true then some true else some b)=some (!a || b):=by cases a <;> rfl
def zv:bi:=⟨0,0,⟨#[]⟩⟩
def uX (p:List aq) (n:ByteArray):bi × Bool:=match p.find? (fun b=>seq b.Name n) with
 | some b=>(b.V,true)
 | none=>(zv,false)
theorem zH (b:aq) (p:List aq) (n:ByteArray):uX (b :: p) n=if seq b.Name n=true then (b.V,true) else uX p n:=by
 unfold uX;rw[K1]
 cases seq b.Name n <;> simp
theorem Gn {N:Nat} (c:1099000000000≤N) (p:List aq) (n:ByteArray) (d:p.length≤4294967296):mw N p n=some (uX p n):=by
 unfold mw
 have:∀ (k i:Nat),i≤p.length→p.length - i < k→ia N p n k i=some (uX (p.drop i) n):=by
  intro k
  induction k with
  | zero=>intro i _ h;omega
  | succ k b=>
   intro i e hk
   simp only[ia]
   by_cases a:i < p.length
   ·have c1:decide ((i:Int) < (p.length:Int))=true:=decide_eq_true MB
    rw[ho a,zH]
    simp only[c1,if_true,an a,gf,wr1 i MB,b (i+1) MB MB]
    cases seq p[i].Name n <;> rfl
   ·have c1:decide ((i:Int) < (p.length:Int))=false:=decide_eq_false MB
    simp only[c1,gh,if_false]
    rw[hy MB];rfl
 exact this N 0 MB MB
def dP (b0:List aq):List bn→List bi→List aq→List aq × Bool
 | a :: as,v :: vs,s=>
  if a.K=2 then (if bq a.V v=true then dP b0 as vs s else (b0,false))
  else if a.K=1 then (if (uX s a.S).2=true then (if bq (uX s a.S).1 v=true then dP b0 as vs s else (b0,false)) else dP b0 as vs (s++[⟨a.S,v⟩]))
  else dP b0 as vs s
 | _,_,s=>(s,true)
theorem BH {N:Nat} (k:1099000000000≤N) (p:au) (f:aH) (b:List aq) (he:p.Args.length=f.Fields.length) (m:p.Args.length≤1048576) (o:b.length≤2147483648):∀ (n i:Nat) (s:List aq),i≤p.Args.length→p.Args.length - i < n→s.length≤2147483648+i →
  fL N p f b n s i=some (dP b (p.Args.drop i) (f.Fields.drop i) s):=by
 intro n
 induction n with
 | zero=>intro i s _ h;omega
 | succ n d=>
  intro i s q r t
  simp only[fL]
  by_cases e:i < p.Args.length
  ·have c1:decide ((i:Int) < (p.Args.length:Int))=true:=decide_eq_true MB
   have g:i < f.Fields.length:=by omega
   rw[ho e,ho g,dP]
   simp only[c1,if_true,an e,an g,gf,Gn k s _ (show s.length≤4294967296 by omega),dY (show b.length≤4294967296 by omega),bD (show s.length+[(⟨p.Args[i].S,f.Fields[i]⟩:aq)].length≤4294967296 by simp;omega),wr1 i MB,nK,orS]
   have c:=d (i+1) s MB MB MB
   have l:=d (i+1) (s++[⟨p.Args[i].S,f.Fields[i]⟩]) MB MB (by simp;omega)
   by_cases j:p.Args[i].K=2
   ·have a : ¬ p.Args[i].K=1:=by omega
    simp only[j,a,decide_true,decide_false,if_true,if_false,hK,p5,r0,gh,gf,show ¬ (2:Int)=1 by omega]
    cases bq p.Args[i].V f.Fields[i] with
    | true=>simpa using c
    | false=>simp
   ·by_cases a:p.Args[i].K=1
    ·simp only[a,decide_true,decide_false,if_true,if_false,hK,p5,qa,gh,gf,show ¬ (1:Int)=2 by omega]
     cases (uX s p.Args[i].S).2 with
     | true=>
      simp only[if_true,hA,hK,gh,if_false]
      cases bq (uX s p.Args[i].S).1 f.Fields[i] with
      | true=>simpa using c
      | false=>simp
     | false=>simpa using l
    ·simp only[a,j,decide_false,if_false,p5,qa,r0,gh,gf]
     simpa using c
  ·have c1:decide ((i:Int) < (p.Args.length:Int))=false:=decide_eq_false MB
   simp only[c1,gh,if_false]
   rw[hy MB]
   rfl
def bv (p:au) (f:aH) (b:List aq):List aq × Bool:=if seq p.Kind f.Kind=true∧p.Args.length=f.Fields.length then dP b p.Args f.Fields b else (b,false)
theorem wT {N:Nat} (c:1099000000000≤N) (p:au) (f:aH) (b:List aq) (d:p.Args.length≤1048576) (e:b.length≤2147483648):gS N p f b=some (bv p f b):=by
 unfold gS bv
 rw[dY MB]
 simp only[gf,orS]
 cases hk:seq p.Kind f.Kind with
 | false=>simp
 | true=>
  by_cases he:p.Args.length=f.Fields.length
  ·have a:decide ((p.Args.length:Int)=(f.Fields.length:Int))=true:=decide_eq_true MB
   have:=(BH c p f b he d e N 0 b MB MB MB)
   simp only[a,he,hA,r0,gh,if_false,true_and,if_true]
   simpa using this
  ·have a:decide ((p.Args.length:Int)=(f.Fields.length:Int))=false:=decide_eq_false MB
   simp[a,he]
theorem qk {b0:List aq}:∀ (as:List bn) (vs:List bi) (s:List aq),(dP b0 as vs s).1.length≤b0.length∨(dP b0 as vs s).1.length≤s.length+as.length
 | [],vs,s=>.inr (by simp[dP])
 | a :: as,[],s=>.inr (by simp[dP])
 | a :: as,v :: vs,s=>by
  have h1:=qk (b0:=b0) as vs s
  have b:=qk (b0:=b0) as vs (s++[⟨a.S,v⟩])
  simp only[hd,gx,ha] at h1 b ⊢
  unfold dP
  split
  ·split
   ·omega
   ·exact .inl (hN _)
  ·split
   ·split
    ·split
     ·omega
     ·exact .inl (hN _)
    ·omega
   ·omega
theorem ml (p:au) (f:aH) (b:List aq):(bv p f b).1.length≤b.length+p.Args.length:=by
 unfold bv
 split
 ·have:=qk (b0:=b) p.Args f.Fields b;omega
 ·simp
def dT (l:List au):Nat:=(l.map fun p=>p.Args.length).sum
theorem eR (p:au) (t:List au):dT (p :: t)=p.Args.length+dT t:=by simp[dT]
theorem rP (n:Nat):∀ (l:List au),dT (l.take n)≤dT l:=by
 induction n with
 | zero=>intro l;simp[dT]
 | succ n a=>
  intro l
  cases l with
  | nil=>simp
  | cons p t=>rw[y2,eR,eR];have:=a t;omega
def pos (l:List au):List au:=l.filter fun p=>!p.Not
theorem wn:∀ (l:List au),dT (pos l)≤dT l
 | []=>by simp[pos]
 | p :: t=>by
  have:=wn t
  unfold pos at this ⊢
  rw[k0,eR]
  split
  ·rw[eR];omega
  ·omega
theorem Jt (l:List au):(l.filter fun p=>p.Not == false)=pos l:=by
 unfold pos;congr 1;funext p;cases p.Not <;> rfl
def Ct:aH:=⟨⟨#[]⟩,[]⟩
def aK (xs:List aw) (v:Int):aH × Bool:=match xs.find? (fun x=>decide (x.Id=v)) with | some x=>(x.F,true) | none=>(Ct,false)
theorem wu (x:aw) (xs:List aw) (v:Int):aK (x :: xs) v=if x.Id=v then (x.F,true) else aK xs v:=by
 unfold aK
 rw[K1]
 by_cases h:x.Id=v <;> simp[h]
theorem CS {xs:List aw} (a:∀ x∈xs,x.F.Fields.length≤1048576) (v:Int):(aK xs v).1.Fields.length≤1048576:=by
 unfold aK
 split
 ·rename_i x h;exact a x (List.mem_of_find?_eq_some h)
 ·simp[Ct]
def df (xs:List aw):List au→List Int→List aq→List aq × Bool
 | [],[],l=>(l,true)
 | p :: t,v :: ids,l=>if (aK xs v).2=true∧(bv p (aK xs v).1 l).2=true then df xs t ids (bv p (aK xs v).1 l).1 else ([],false)
 | _,_,_=>([],false)
theorem yi {xs:List aw}:∀ (ps:List au) (ids:List Int) (l:List aq),(df xs ps ids l).1.length≤l.length+dT ps
 | [],[],l=>by simp[df]
 | [],v :: ids,l=>by simp[df]
 | p :: t,[],l=>by simp[df]
 | p :: t,v :: ids,l=>by
  have h1:=ml p (aK xs v).1 l
  have a:=yi (xs:=xs) t ids (bv p (aK xs v).1 l).1
  rw[eR]
  unfold df
  split
  ·omega
  ·simp
def yB (p:au) (l:List aq) (xs:List aw):Nat:=xs.countP fun x=>(bv p x.F l).2
def rH (ps:List au) (xs:List aw) (l:List aq):Bool:=ps.any fun p=>p.Not && xs.any fun x=>(bv p x.F l).2
theorem Af (p:au) (l:List aq) (xs:List aw):yB p l xs≤xs.length:=List.countP_le_length
def jM:List bn→List bi
 | []=>[]
 | a :: t=>if a.K=2 then a.V :: jM t else jM t
def ats:Nat→List bn→List Int
 | _,[]=>[]
 | i,a :: t=>if a.K=2 then (i:Int) :: ats (i+1) t else ats (i+1) t
def bb (p:au):ax:=⟨p.Kind,(p.Args.length:Int),jM p.Args,ats 0 p.Args⟩
theorem yt:∀ (l:List bn),(jM l).length≤l.length
 | []=>by simp[jM]
 | a :: t=>by have:=yt t;unfold jM;split <;> simp <;> omega
theorem DR:∀ (l:List bn) (i:Nat),(ats i l).length≤l.length
 | [],_=>by simp[ats]
 | a :: t,i=>by have:=DR t (i+1);unfold ats;split <;> simp <;> omega
theorem If {N:Nat} (c:1099000000000≤N) (p:au) (d:p.Args.length≤1048576):nO N p=some (bb p):=by
 have lp:∀ (n i:Nat) (cs:List bi) (as:List Int),i≤p.Args.length→p.Args.length - i < n→cs.length≤i→as.length≤i →
   fc N p n cs as i=some ⟨p.Kind,(p.Args.length:Int),cs++jM (p.Args.drop i),as++ats i (p.Args.drop i)⟩:=by
  intro n
  induction n with
  | zero=>intro i _ _ _ h;omega
  | succ n a=>
   intro i cs as e f h1 g
   by_cases b:i < p.Args.length
   ·have c1:decide ((i:Int) < (p.Args.length:Int))=true:=decide_eq_true MB
    rw[ho b]
    simp only[fc,c1,if_true,an b,gf,wr1 i MB,jM,ats]
    by_cases hk:p.Args[i].K=2
    ·simp only[hk,decide_true,if_true,bD (show cs.length+[p.Args[i].V].length≤4294967296 by simp;omega),bD (show as.length+[(i:Int)].length≤4294967296 by simp;omega),gf]
     rw[a (i+1) _ _ MB MB (by simp;omega) (by simp;omega)];simp
    ·simp only[hk,decide_false,gh,if_false]
     exact a (i+1) _ _ MB MB MB MB
   ·have c1:decide ((i:Int) < (p.Args.length:Int))=false:=decide_eq_false MB
    rw[hy MB]
    simp only[fc,c1,gh,if_false,jM,ats,List.append_nil]
 have:=lp N 0 [] [] MB MB MC MC
 unfold nO bb
 simpa using this
theorem K8 (x y:bi):bq x y=decide (x=y):=hP x y
def kh (a:ax):Prop:=a.Consts.length≤1048576∧a.At.length≤1048576
theorem Fw {N:Nat} (d:1099000000000≤N) (x y:List Int) (f:x.length≤4294967296):cn N x y=some (decide (x=y)):=by
 unfold cn
 by_cases c:x.length=y.length
 ·rw[if_neg (by simp;omega)]
  refine (rS (cv N x y) x y c MB (fun a b=>some (decide (a=b))) (fun a _ b _=>rfl) (fun k i=>rfl) N 0 MB MB).trans ?_
  simp
 ·rw[if_pos (by simp;omega)]
  have : ¬ x=y:=fun e=>c (by rw[e])
  simp[this]
theorem JS {N:Nat} (d:1099000000000≤N) (x y:List bi) (f:x.length≤4294967296):bU N x y=some (decide (x=y)):=by
 unfold bU
 by_cases c:x.length=y.length
 ·rw[if_neg (by simp;omega)]
  refine (rS (bp N x y) x y c MB (fun a b=>some (decide (a=b))) (fun a _ b _=>rfl) (fun k i=>by simp only[bp,K8,gf]) N 0 MB MB).trans ?_
  simp
 ·rw[if_pos (by simp;omega)]
  have : ¬ x=y:=fun e=>c (by rw[e])
  simp[this]
theorem HD {N:Nat} (i:1099000000000≤N) (x y:ax) (h:kh x):kL N x y=some (decide (x=y)):=by
 unfold kL
 simp only[Fw i _ _ (show x.At.length≤4294967296 by have:=h.2;omega),JS i _ _ (show x.Consts.length≤4294967296 by have:=h.1;omega),gf,nK,kA]
 obtain⟨a,b,c,d⟩:=x;obtain⟨e,f,g,k⟩:=y
 simp only[ax.mk.injEq,← Bool.decide_and,and_assoc]
def jG (a:List bi):List Int→List bi→Bool
 | [],_=>true
 | _ :: _,[]=>false
 | x :: t,c :: cs=>(decide (0≤x) && (decide (x < (a.length:Int)) && decide (idx a x=some c))) && jG a t cs
def fH (a:ax) (f:aH):Bool:=(seq f.Kind a.Kind && decide ((f.Fields.length:Int)=a.N)) && jG f.Fields a.At a.Consts
theorem Gy {N:Nat} (o:1099000000000≤N) (a:ax) (f:aH) (h:a.At.length≤1048576):pq N a f=some (fH a f):=by
 have lp:∀ (n i:Nat),i≤a.At.length→a.At.length - i < n→ip N a f n i=some (jG f.Fields (a.At.drop i) (a.Consts.drop i)):=by
  intro n
  induction n with
  | zero=>intro i _ h;omega
  | succ n l=>
   intro i p q
   simp only[ip]
   by_cases c:i < a.At.length
   ·have c1:decide ((i:Int) < (a.At.length:Int))=true:=decide_eq_true MB
    rw[ho c]
    simp only[c1,if_true,an c,gf,wr1 i MB,l (i+1) MB MB]
    by_cases d:i < a.Consts.length
    ·have c2:decide ((a.Consts.length:Int)≤(i:Int))=false:=decide_eq_false MB
     rw[ho d,jG]
     by_cases b:a.At[i] < 0
     ·simp[b,c2,show ¬ 0≤a.At[i] by omega]
     ·by_cases h1:(f.Fields.length:Int)≤a.At[i]
      ·simp[b,h1,show ¬ a.At[i] < (f.Fields.length:Int) by omega]
      ·obtain⟨j,e⟩:∃ j:Nat,a.At[i]=(j:Int):=⟨a.At[i].toNat,MB⟩
       have g:j < f.Fields.length:=by omega
       rw[e]
       rw[e] at b h1
       simp only[b,h1,c2,decide_false,gh,if_false,gf,an g,an d,hP,Option.some.injEq]
       by_cases he:f.Fields[j]=a.Consts[i] <;> simp[he,g]
    ·have c2:decide ((a.Consts.length:Int)≤(i:Int))=true:=decide_eq_true MB
     rw[hy (show a.Consts.length≤i by omega),jG]
     by_cases b:a.At[i] < 0
     ·simp[b,c2]
     ·by_cases h1:(f.Fields.length:Int)≤a.At[i] <;> simp[b,h1,show a.Consts.length≤i by omega]
   ·have c1:decide ((i:Int) < (a.At.length:Int))=false:=decide_eq_false MB
    rw[hy (show a.At.length≤i by omega)]
    simp only[c1,gh,if_false,jG]
 have k:=lp N 0 MB MB
 rw[hE,hE,show ((0:Nat):Int)=0 from rfl] at k
 unfold pq fH
 rw[k]
 cases seq f.Kind a.Kind <;> by_cases m:(f.Fields.length:Int)=a.N <;> simp[m]
theorem vM (f:Nat→Int→Option Bool) (a:Nat) (hm:a≤4611686018427387903) (e:Nat→Bool) (z:Bool)
  (h:∀ k (i:Nat),i < a→f (k+1) i=if e i then f k (IntKind.i64.wrap ((i:Int)+1)) else some false) (c:∀ k (i:Nat),i=a→f (k+1) i=some z) :
  ∀ (n i:Nat),i≤a→a - i < n→f n i=some (((List.range a).drop i).all e && z):=by
 intro n
 induction n with
 | zero=>intro i _ h;omega
 | succ n d=>
  intro i g j
  by_cases b:i < a
  ·rw[h n i b,ho (by simpa using b),List.getElem_range,ix]
   cases he:e i with
   | false=>simp
   | true=>simp only[if_true,hK];rw[wr1 i MB,d (i+1) MB MB]
  ·have:i=a:=by omega
   rw[c n i this,hy (by simp;omega)]
   simp
theorem in0 (N:Nat) (a b c:Int):dO N a b c=some (decide (b≤a) && decide (a≤c)):=by
 unfold dO
 by_cases h:b≤a <;> simp[h]
theorem in1 (N:Nat) (a b c:Int):cU N a b c=some (decide (b≤a) && decide (a≤c)):=by
 unfold cU
 by_cases h:b≤a <;> simp[h]
theorem wrU (y:UInt8):IntKind.i64.wrap (y.toNat:Int)=(y.toNat:Int):=wr MB (by have:=y.toNat_lt;omega)
def jX (y:UInt8):Bool:=(decide (97≤(y.toNat:Int)) && decide ((y.toNat:Int)≤122)) || (decide (48≤(y.toNat:Int)) && decide ((y.toNat:Int)≤57)) || decide ((y.toNat:Int)=95)
theorem xv (N:Nat) (y:UInt8):ja N (y.toNat:Int)=some (jX y):=by
 unfold ja jX
 simp only[wrU,in0,gf]
 by_cases h1:(decide (97≤(y.toNat:Int)) && decide ((y.toNat:Int)≤122))=true
 ·simp[h1]
 ·rw[if_neg h1]
  simp only[gf]
  rw[Bool.eq_false_iff.2 h1,qa]
  by_cases a:(decide (48≤(y.toNat:Int)) && decide ((y.toNat:Int)≤57))=true
  ·simp[a]
  ·rw[if_neg a,Bool.eq_false_iff.2 a,qa];rfl
theorem C2 (N:Nat) (y:UInt8):iJ N (y.toNat:Int)=some (jX y):=by
 unfold iJ jZ qj jX
 generalize (y.toNat:Int)=n
 rw[nK,nK,gf,gf,gf,gf,orS,gf,orS]
 rfl
def tI (y:UInt8):Bool:=decide (97≤(y.toNat:Int)) && decide ((y.toNat:Int)≤122)
def ol (s:ByteArray):Bool:=((List.range s.size).drop 0).all (fun i=>match s.data.toList[i]? with | some y=>jX y | none=>false)
theorem mA (s:ByteArray):s.data.toList.length=s.size:=rfl
theorem I3 {N:Nat} (c:1048578≤N) (s:ByteArray) (d:s.size≤1048576):np N s=some (ol s && decide ((s.size:Int)≤20)):=by
 unfold np
 refine vM (fun n i=>fq N s n i) s.size MB _ _ (fun k i a=>?_) (fun k i a=>?_) N 0 MB MB
 ·have b:i < s.data.toList.length:=by rw[mA];exact a
  simp only[fq,an b,gf,xv,hh b]
  rw[if_pos (by simp;omega)]
  cases jX s.data.toList[i] <;> simp
 ·simp only[fq]
  rw[if_neg (by simp;omega)]
theorem Cr {N:Nat} (c:1048578≤N) (s:ByteArray) (n:Int) (d:s.size≤1048576):mM N s n=some (ol s && decide ((s.size:Int)≤n)):=by
 unfold mM
 have:eU N s N 0=some (ol s && true):=by
  refine vM (fun n i=>eU N s n i) s.size MB _ _ (fun k i a=>?_) (fun k i a=>?_) N 0 MB MB
  ·have b:i < s.data.toList.length:=by rw[mA];exact a
   simp only[eU,an b,gf,C2,hh b]
   rw[if_pos (by simp;omega)]
   cases jX s.data.toList[i] <;> simp
  ·simp only[eU]
   rw[if_neg (by simp;omega)]
 rw[this]
 by_cases h:n < (s.size:Int)
 ·rw[if_pos (by simpa using h),decide_eq_false MB,rr]
 ·rw[if_neg (by simpa using h),decide_eq_true (show (s.size:Int)≤n by omega)]
theorem JL {N:Nat} (b:1048578≤N) (s:ByteArray) (c:s.size≤1048576):gE N s=some ((match s.data.toList[0]? with | some y=>tI y | none=>false) && (ol s && decide ((s.size:Int)≤12))):=by
 unfold gE
 rw[Cr b s 12 c]
 by_cases h:0 < s.size
 ·have a:0 < s.data.toList.length:=by rw[mA];exact h
  have d:idx s.data.toList 0=some s.data.toList[0]:=by simpa using an (i:=0) a
  rw[if_pos (by simpa using h),d,hh a]
  have:jZ N (s.data.toList[0].toNat:Int)=some (tI s.data.toList[0]):=by
   unfold jZ tI
   generalize (s.data.toList[0].toNat:Int)=n
   by_cases h1:97≤n <;> simp[h1]
  simp only[gf,this]
  cases tI s.data.toList[0] <;> simp
 ·rw[if_neg (by simpa using h),x0 (by rw[mA];omega)]
  rfl
theorem KH {N:Nat} (g:1048578≤N) (s:ByteArray) (h:s.size≤1048576):eH N s=some ((match s.data.toList[0]? with | some y=>tI y | none=>false) && (ol s && decide ((s.size:Int)≤12))):=by
 unfold eH
 have:=vM (fun n i=>eO N s n i) s.size MB (fun i=>match s.data.toList[i]? with | some y=>jX y && (decide (¬ i=0) || tI y) | none=>false) (decide (1≤(s.size:Int)) && decide ((s.size:Int)≤12)) (fun k i d=>by
  have c:i < s.data.toList.length:=by rw[mA];exact d
  simp only[eO,an c,gf,xv,hh c,wrU,in0]
  rw[if_pos (by simp;omega)]
  have e:decide ((i:Int)=0)=decide (i=0):=by rw[decide_eq_decide];omega
  rw[e]
  unfold tI
  simp only[nK,orS,gf]
  generalize jX s.data.toList[i]=a
  generalize (decide (97≤(s.data.toList[i].toNat:Int)) && decide ((s.data.toList[i].toNat:Int)≤122))=b
  cases a <;> cases b <;> by_cases f:i=0 <;> simp[f]) (fun k i d=>by
  simp only[eO,in0,gf]
  rw[if_neg (by simp;omega)]) N 0 MB MB
 rw[show eO N s N 0=_ from this]
 congr 1
 unfold ol
 simp only[hE]
 cases j:s.size with
 | zero=>
  rw[x0 (by rw[mA];omega)]
  simp
 | succ n=>
  have c:0 < s.data.toList.length:=by rw[mA];omega
  rw[hh c,List.range_succ_eq_map]
  simp only[ix,hh c,List.all_map,Function.comp_def,Nat.succ_eq_add_one]
  have:∀ i,(match s.data.toList[i+1]? with | some y=>jX y && (decide (¬ i+1=0) || tI y) | none=>false)=(match s.data.toList[i+1]? with | some y=>jX y | none=>false):=by
   intro i;cases s.data.toList[i+1]? <;> simp
  simp only[this]
  have h1:decide (1≤((n+1:Nat):Int))=true:=by simp;omega
  simp only[h1,hK,not_true,decide_false,qa]
  cases jX s.data.toList[0] <;> cases tI s.data.toList[0] <;> simp
theorem J0 {N:Nat} (a:1048578≤N) (v:bi) (b:v.S.size≤1048576):oC N v=lK N v:=by
 unfold oC lK
 rw[I3 a _ b,Cr a _ _ b,in0,in1]
 by_cases h1:v.K=1
 ·simp[h1]
 ·by_cases c:v.K=2
  ·simp only[c,nK,orS,gf]
   cases decide (v.N=0) <;> cases ol v.S <;> cases decide ((v.S.size:Int)≤20) <;> rfl
  ·simp[h1,c]
def rp (v:bi):Bool:=if v.K=1 then (decide (-1000000000≤v.N) && decide (v.N≤1000000000)) && seq v.S ⟨#[]⟩ else if v.K=2 then decide (v.N=0) && (ol v.S && decide ((v.S.size:Int)≤20)) else false
theorem DL {N:Nat} (b:1048578≤N) (v:bi) (c:v.S.size≤1048576):lK N v=some (rp v):=by
 unfold lK rp
 rw[Cr b _ _ c,in1]
 by_cases h1:v.K=1
 ·simp only[h1,decide_true,if_true,gf]
  cases (decide (-1000000000≤v.N) && decide (v.N≤1000000000)) <;> simp
 ·by_cases a:v.K=2
  ·by_cases d:v.N=0 <;> simp[a,d]
  ·simp[h1,a]
def sd (y:UInt8):Bool:=decide (65≤(y.toNat:Int)) && decide ((y.toNat:Int)≤90)
theorem Dl (N:Nat) (y:UInt8):lB N (y.toNat:Int)=some (sd y):=by
 unfold lB sd;cases decide (65≤(y.toNat:Int)) <;> rfl
theorem Dy (N:Nat) (y:UInt8):nN N (y.toNat:Int)=some (sd y):=by
 unfold nN sd;rw[wrU,in0];rfl
def A6 (s:ByteArray):Bool:=match s.data.toList with
 | []=>false
 | b :: t=>sd b && (t.all (fun y=>jX y || sd y) && decide ((s.size:Int)≤12))
theorem KW {N:Nat} (j:1099000000000≤N) (s:ByteArray) (k:s.size≤1048576):qR N s=some (A6 s):=by
 have c:s.size=s.data.toList.length:=rfl
 have lp:=wL (gW N s) s.data.toList MB (fun y=>jX y || sd y) true 0 (fun n i y _ f _ a hw=>by
  rw[← c] at a
  simp only[gW,a,if_true,f,gf,C2,Dl,hw]
  cases jX y <;> cases sd y <;> rfl) (fun n i a=>by rw[← c] at a;simp only[gW,a,gh,if_false])
 unfold qR A6
 cases d:s.data.toList with
 | nil=>
  have:s.size=0:=by rw[c,d];rfl
  rw[this];rfl
 | cons b t=>
  have h1:s.size=t.length+1:=by rw[c,d];rfl
  have c1:decide ((s.size:Int) < 1)=false:=decide_eq_false MB
  have:=lp N 0 MB MB MB
  rw[d] at this
  have g:idx (b :: t) 0=some b:=rfl
  simp only[c1,gh,if_false,gf,g,Dl]
  by_cases c2:(s.size:Int)≤12
  ·have e:decide (12 < (s.size:Int))=false:=decide_eq_false MB
   simp only[c2,e,decide_true,q7,gh,if_false,gf]
   cases h:sd b with
   | false=>rfl
   | true=>
    simp only[hA,gh,if_false,hK]
    refine this.trans ?_
    simp[h]
  ·have e:decide (12 < (s.size:Int))=true:=decide_eq_true MB
   simp only[c2,e,decide_false,rr,if_true,gf]
theorem Lk {N:Nat} (h:1099000000000≤N) (s:ByteArray) (j:s.size≤1048576):nw N s=some (A6 s):=by
 have c:s.size=s.data.toList.length:=rfl
 have lp:=wL (du N s) s.data.toList MB (fun y=>jX y || sd y) (decide (1≤(s.size:Int)) && decide ((s.size:Int)≤12)) 1 (fun n i y h1 e _ a hw=>by
  rw[← c] at a
  have f:decide ((i:Int)=0)=false:=decide_eq_false MB
  simp only[du,a,if_true,e,gf,xv,Dy,hw,f,gh,if_false]
  cases jX y <;> cases sd y <;> rfl) (fun n i a=>by rw[← c] at a;simp only[du,a,gh,if_false,in0,gf])
 unfold nw A6
 obtain⟨n,rfl⟩:∃ n,N=n+1:=⟨N - 1,MB⟩
 cases d:s.data.toList with
 | nil=>
  have:s.size=0:=by rw[c,d];rfl
  simp only[du,this,in0];rfl
 | cons b t=>
  have h1:s.size=t.length+1:=by rw[c,d];rfl
  have c1:decide ((0:Int) < (s.size:Int))=true:=decide_eq_true MB
  have:=lp n 1 MB MB MB
  rw[d] at this
  have g:idx (b :: t) 0=some b:=rfl
  simp only[du,c1,if_true,d,g,gf,Dy,decide_true]
  cases k:sd b with
  | false=>rfl
  | true=>
   simp only[hA,gh,if_false,gf,hK]
   rw[show IntKind.i64.wrap ((0:Int)+1)=((1:Nat):Int) from wr1 0 MB]
   refine this.trans ?_
   simp[show (1:Int)≤(s.size:Int) by omega]
def tG (a:bn):Prop:=a.S.size≤1048576∧a.V.S.size≤1048576
def lG (a:bn):Bool:=if a.K=1 then A6 a.S && bq a.V ⟨0,0,⟨#[]⟩⟩ else if a.K=2 then rp a.V && seq a.S ⟨#[]⟩ else if a.K=3 then seq a.S ⟨#[]⟩ && bq a.V ⟨0,0,⟨#[]⟩⟩ else false
theorem DP {N:Nat} (b:1099000000000≤N) (a:bn) (h:tG a):lg N a=some (lG a):=by
 unfold lg lG
 rw[Lk b _ h.1,J0 MB _ h.2,DL MB _ h.2]
 simp only[gf,nK,decide_eq_true_eq]
 split <;> (try split) <;> (try split) <;> rfl
theorem Jc {N:Nat} (b:1099000000000≤N) (a:bn) (h:tG a):oF N a=some (lG a):=by
 unfold oF lG
 rw[KW b _ h.1,DL MB _ h.2]
 simp only[gf,nK,decide_eq_true_eq,K2]
 split <;> (try split) <;> (try split) <;> simp[K2]
def qM (a:bn):Bool:=lG a && !decide (a.K=3)
theorem E2 {N:Nat} (b:1099000000000≤N) (a:bn) (h:tG a):jN N a=some (qM a):=by
 unfold jN qM;simp only[DP b a h,gf,nK]
theorem wR {N:Nat} (b:1099000000000≤N) (a:bn) (h:tG a):iX N a=some (qM a):=by
 unfold iX qM;simp only[Jc b a h,gf,nK,K2]
def xZ (e:bY):Prop:=e.Op.size≤1048576∧tG e.L∧tG e.R
def jI (e:bY):Bool:=if seq e.Op ⟨#[]⟩ then qM e.L && nB e.R ⟨0,⟨#[]⟩,⟨0,0,⟨#[]⟩⟩⟩ else (seq e.Op ⟨#[43]⟩ || seq e.Op ⟨#[45]⟩) && (qM e.L && qM e.R)
theorem JM {N:Nat} (a:1099000000000≤N) (e:bY) (h:xZ e):pD N e=some (jI e):=by
 unfold pD jp jI
 simp only[E2 a _ h.2.1,E2 a _ h.2.2,gf,nK]
 cases seq e.Op ⟨#[]⟩ <;> cases seq e.Op ⟨#[43]⟩ <;> cases seq e.Op ⟨#[45]⟩ <;> rfl
theorem JX {N:Nat} (a:1099000000000≤N) (e:bY) (h:xZ e):ph N e=some (jI e):=by
 unfold ph ji jI
 simp only[wR a _ h.2.1,wR a _ h.2.2,gf,nK]
 cases seq e.Op ⟨#[]⟩ <;> cases seq e.Op ⟨#[43]⟩ <;> cases seq e.Op ⟨#[45]⟩ <;> rfl
def dU (s:ByteArray):Bool:=(match s.data.toList[0]? with | some y=>tI y | none=>false) && (ol s && decide ((s.size:Int)≤12))
theorem ri {N:Nat} (b:1099000000000≤N) (s:ByteArray) (a:s.size≤1048576):eH N s=some (dU s):=KH MB s a
theorem qV {N:Nat} (b:1099000000000≤N) (s:ByteArray) (a:s.size≤1048576):gE N s=some (dU s):=JL MB s a
def zP (a:cA):Prop:=a.Name.size≤1048576∧a.Undo.size≤1048576∧a.Args.length≤1048576∧∀ e∈a.Args,xZ e
theorem Kv {N:Nat} (b:1099000000000≤N) (xs:List bY) (d:xs.length≤1048576) (h:∀ e∈xs,xZ e):l5 N xs=some (xs.all jI && decide ((xs.length:Int)≤5)):=by
 unfold l5
 have:=wL (gm N xs) xs MB jI (decide ((xs.length:Int)≤5)) 0 (fun n i y _ c hm a hw=>by
  simp only[gm,a,if_true,c,gf,JM b y (h y hm),hw];cases jI y <;> rfl) (fun n i a=>by simp only[gm,a,gh,if_false]) N 0 MB MB MB
 simpa using this
theorem Kz {N:Nat} (e:1099000000000≤N) (a:cA) (h:zP a):l6 N a=some (dU a.Name && (a.Args.all jI && decide ((a.Args.length:Int)≤5))):=by
 obtain⟨h1,k,l,f⟩:=h
 unfold l6
 have:=wL (eJ N a) a.Args MB jI true 0 (fun n i y _ g hm b hw=>by
  simp only[eJ,b,if_true,g,gf,JX e y (f y hm),hw];cases jI y <;> rfl) (fun n i b=>by simp only[eJ,b,gh,if_false]) N 0 MB MB MB
 have j:eJ N a N 0=some (a.Args.all jI):=by simpa using this
 simp only[qV e _ h1,gf,j]
 cases dU a.Name with
 | false=>rfl
 | true=>
  by_cases c:(a.Args.length:Int)≤5
  ·have d:decide (5 < (a.Args.length:Int))=false:=decide_eq_false MB
   simp only[c,d,decide_true,q7,hK,hA,gh,if_false,gf]
  ·have d:decide (5 < (a.Args.length:Int))=true:=decide_eq_true MB
   simp only[c,d,decide_false,rr,hA,gh,if_false,if_true,gf]
def oX (a:cA):Bool:=
 let na:=dU a.Name && (a.Args.all jI && decide ((a.Args.length:Int)≤5))
 let bare:=seq a.Name ⟨#[]⟩ && decide ((a.Args.length:Int)=0)
 if a.Kind=1 then na && decide (a.N=0) && seq a.Undo ⟨#[]⟩
 else if a.Kind=2 then bare && (decide (0≤a.N) && decide (a.N≤7)) && seq a.Undo ⟨#[]⟩
 else if a.Kind=3 then na && decide (a.N=0) && (seq a.Undo ⟨#[]⟩ || dU a.Undo)
 else if a.Kind=4 then na && (decide (0≤a.N) && decide (a.N≤100000)) && seq a.Undo ⟨#[]⟩
 else if a.Kind=5∨a.Kind=6 then bare && decide (a.N=0) && seq a.Undo ⟨#[]⟩
 else false
theorem L5 {N:Nat} (b:1099000000000≤N) (a:cA) (h:zP a):qL N a=some (oX a):=by
 obtain⟨h1,k,l,m⟩:=h
 unfold qL km oX
 simp only[Kv b _ l m,ri b _ h1,ri b _ k,in0,gf,nK,orS,decide_eq_true_eq]
 generalize dU a.Name=n;generalize a.Args.all jI=e;generalize dU a.Undo=u;generalize seq a.Name ⟨#[]⟩=sn;generalize seq a.Undo ⟨#[]⟩=su
 by_cases c:a.Kind=1
 ·simp[c] <;> (cases n <;> cases e <;> simp)
 by_cases d:a.Kind=3
 ·simp[d] <;> (cases n <;> cases e <;> simp)
 by_cases f:a.Kind=4
 ·simp[f] <;> (cases n <;> cases e <;> simp)
 by_cases g:a.Kind=2
 ·simp[g] <;> (cases sn <;> cases su <;> simp)
 by_cases i:a.Kind=5
 ·simp[i] <;> (cases sn <;> cases su <;> simp)
 ·by_cases j:a.Kind=6
  ·simp[j] <;> (cases sn <;> cases su <;> simp)
  ·simp[c,g,d,f,i,j]
theorem Lj {N:Nat} (b:1099000000000≤N) (a:cA) (h:zP a):qO N a=some (oX a):=by
 have k:=Kz b a h
 obtain⟨h1,l,m,o⟩:=h
 unfold qO kj rU oX
 simp only[k,qV b _ l,in1,gf,nK,orS,decide_eq_true_eq]
 generalize dU a.Name=n;generalize a.Args.all jI=e;generalize dU a.Undo=u;generalize seq a.Name ⟨#[]⟩=sn;generalize seq a.Undo ⟨#[]⟩=su
 by_cases c:a.Kind=1
 ·simp[c] <;> (cases n <;> cases e <;> simp)
 by_cases d:a.Kind=3
 ·simp[d] <;> (cases n <;> cases e <;> simp)
 by_cases f:a.Kind=4
 ·simp[f] <;> (cases n <;> cases e <;> simp)
 by_cases g:a.Kind=2
 ·simp[g] <;> (cases sn <;> cases su <;> simp)
 by_cases i:a.Kind=5
 ·simp[i] <;> (cases sn <;> cases su <;> simp)
 ·by_cases j:a.Kind=6
  ·simp[j] <;> (cases sn <;> cases su <;> simp)
  ·simp[c,g,d,f,i,j]
def zO (p:au):Prop:=p.Kind.size≤1048576∧p.Args.length≤1048576∧∀ a∈p.Args,tG a
def lA (p:au):Bool:=dU p.Kind && (decide ((p.Args.length:Int)≤5) && p.Args.all lG)
theorem L4 {N:Nat} (a:1099000000000≤N) (p:au) (h:zO p):qW N p=some (lA p):=by
 obtain⟨h1,e,d⟩:=h
 have lp:=lp0 a p.Args MB (gU N p) (fun t=>some (t.all lG)) (fun n i x t g1 g2 g3 g4 g5 g6 g7=>by
  simp only[gU,g5,if_true,g4,gf,Jc a x (d x g2),g6,g7,ix];cases lG x <;> rfl) (fun n i g1 g2=>by simp only[gU,g2,gh,if_false];rfl)
 unfold qW lA
 simp only[qV a _ h1,gf,lp]
 by_cases c:(p.Args.length:Int)≤5
 ·have b:decide (5 < (p.Args.length:Int))=false:=decide_eq_false MB
  simp only[c,b,decide_true];cases dU p.Kind <;> simp
 ·have b:decide (5 < (p.Args.length:Int))=true:=decide_eq_true MB
  simp only[c,b,decide_false];cases dU p.Kind <;> simp
theorem LA {N:Nat} (d:1099000000000≤N) (p:au) (h:zO p):qY N p=some (lA p):=by
 obtain⟨h1,f,e⟩:=h
 have lp:=lp0 d p.Args MB (gR N p) (fun t=>some (t.all lG && (dU p.Kind && decide ((p.Args.length:Int)≤5)))) (fun n i x t g1 g2 g3 g4 g5 g6 g7=>by
  simp only[gR,g5,if_true,g4,gf,DP d x (e x g2),g6,g7,ix];cases lG x <;> simp) (fun n i g1 g2=>by
  simp only[gR,g2,gh,if_false,ri d _ h1,gf,nK,Gs,hK])
 unfold qY lA
 rw[lp]
 generalize dU p.Kind=a;generalize p.Args.all lG=b;generalize decide ((p.Args.length:Int)≤5)=c
 cases a <;> cases b <;> cases c <;> rfl
def y5 (c:ce):Prop:=tG c.L∧tG c.R
def pj (c:ce):Bool:=(decide (1≤c.Op) && decide (c.Op≤3)) && (qM c.L && qM c.R)
theorem JU {N:Nat} (a:1099000000000≤N) (c:ce) (h:y5 c):oQ N c=some (pj c):=by
 unfold oQ pj
 simp only[in1,wR a _ h.1,wR a _ h.2,gf,nK,K3]
theorem Jo {N:Nat} (g:1099000000000≤N) (c:ce) (h:y5 c):pm N c=some (pj c):=by
 unfold pm pj qM
 simp only[in0,DP g _ h.1,DP g _ h.2,gf,nK]
 generalize lG c.L=a;generalize lG c.R=b;generalize (decide (c.L.K=3))=d;generalize (decide (c.R.K=3))=e;generalize (decide (1≤c.Op) && decide (c.Op≤3))=f
 cases a <;> cases b <;> cases d <;> cases e <;> cases f <;> rfl
instance Ma (v:ByteArray) (xs:List ByteArray):Decidable (v∈xs):=@List.instDecidableMemOfLawfulBEq _ instBEqOfDecidableEq _ v xs
theorem Kt {N:Nat} (b:1099000000000≤N) (xs:List ByteArray) (v:ByteArray) (c:xs.length≤4294967296):mL N xs v=some (decide (v∈xs)):=by
 unfold mL
 refine lp0 b xs c _ (fun t=>some (decide (v∈t))) (fun n i x t h1 a l d f g j=>?_) (fun n i h1 a=>?_)
 ·simp only[j0,f,if_true,d,gf,g,j,kA]
  by_cases h:x=v
  ·simp[h]
  ·have k : ¬ v=x:=fun e=>h e.symm
   simp[h,k]
 ·simp only[j0,a,gh,if_false];simp
def dj (s:List ByteArray) (v:ByteArray):List ByteArray:=if v∈s then s else s++[v]
theorem vl (s:List ByteArray) (v:ByteArray):(dj s v).length≤s.length+1:=by unfold dj;split <;> simp
theorem GY {s:List ByteArray} {v x:ByteArray}:x∈dj s v↔x∈s∨x=v:=by
 unfold dj;split
 ·rename_i h
  constructor
  ·exact .inl
  ·rintro (a | rfl)
   ·exact a
   ·exact h
 ·simp
theorem ru {x:ByteArray}:∀ {vs s:List ByteArray},x∈vs.foldl dj s↔x∈s∨x∈vs
 | [],s=>by simp
 | v :: vs,s=>by rw[ql,ru,GY,hC,or_assoc]
theorem Cc {s:List ByteArray} {v:ByteArray} (h:v∈s):dj s v=s:=by unfold dj;rw[if_pos h]
theorem lH:∀ (vs s:List ByteArray),(vs.foldl dj s).length≤s.length+vs.length
 | [],s=>by simp
 | v :: vs,s=>by have:=lH vs (dj s v);have:=vl s v;simp only[ql,gx];omega
theorem CI (s u:List ByteArray) (v:ByteArray):(dj u v).foldl dj s=dj (u.foldl dj s) v:=by
 by_cases h:v∈u
 ·rw[Cc h,Cc (ru.2 (.inr h))]
 ·have:dj u v=u++[v]:=by unfold dj;rw[if_neg h]
  rw[this,rs];rfl
theorem wk:∀ (vs u s:List ByteArray),(vs.foldl dj u).foldl dj s=vs.foldl dj (u.foldl dj s)
 | [],u,s=>rfl
 | v :: vs,u,s=>by rw[ql,wk vs (dj u v) s,CI,ql]
theorem BC (vs s:List ByteArray):(vs.foldl dj []).foldl dj s=vs.foldl dj s:=wk vs [] s
theorem Cp {B:Nat} {vs s:List ByteArray} (h:∀ x∈vs,x.size≤B) (a:∀ x∈s,x.size≤B):∀ x∈vs.foldl dj s,x.size≤B:=fun x b=>(ru.1 b).elim (a x) (h x)
def cM:List bn→List ByteArray
 | []=>[]
 | a :: t=>if a.K=1 then a.S :: cM t else cM t
theorem iS:∀ (l:List bn),(cM l).length≤l.length
 | []=>by simp[cM]
 | a :: t=>by have:=iS t;unfold cM;split <;> simp <;> omega
theorem nQ {x:ByteArray}:∀ {l:List bn},x∈cM l↔∃ a∈l,a.K=1∧a.S=x
 | []=>by simp[cM]
 | a :: t=>by
  unfold cM
  split
  ·rename_i h;simp[nQ,h,eq_comm]
  ·rename_i h;simp[nQ,h]
theorem Kq {N:Nat} (a:1099000000000≤N) (p:au) (j:p.Args.length≤1048576):pC N p=some ((cM p.Args).foldl dj []):=by
 unfold pC
 refine lp' a p.Args MB (gp N p) (fun t s=>some ((cM t).foldl dj s)) (fun s t=>s.length+t.length≤4294967290) [] (by simp;omega) (fun n s i x t h1 b k e f g c d=>?_) (fun n s i h1 b c=>?_)
 ·simp only[gx] at c
  simp only[gp,f,if_true,e,gf,g,cM,Kt a s x.S MB]
  by_cases h:x.K=1
  ·simp only[h,decide_true,if_true,gf,ql]
   have:=d (dj s x.S) (by have:=vl s x.S;omega)
   unfold dj at this ⊢
   by_cases hm:x.S∈s
   ·simp only[hm,if_true] at this
    simpa[hm] using this
   ·simp only[hm,if_false] at this
    simp only[hm,decide_false,hG,if_true,bD (show s.length+[x.S].length≤4294967296 by simp;omega),gf,if_false]
    exact this
  ·simp only[h,decide_false,gh,if_false,gf]
   exact d _ MB
 ·simp only[gp,b,gh,if_false];rfl
def cN:List au→List ByteArray
 | []=>[]
 | p :: t=>if p.Not then cN t else cM p.Args++cN t
def jQ (l:List au):Nat:=(l.map fun p=>p.Args.length).sum
theorem rN:∀ (l:List au),(cN l).length≤jQ l
 | []=>by simp[cN,jQ]
 | p :: t=>by
  have h1:=rN t
  have b:=iS p.Args
  have a:jQ (p :: t)=p.Args.length+jQ t:=by simp[jQ]
  rw[a]
  unfold cN
  split
  ·omega
  ·rw[hd];omega
theorem zl {N:Nat} (b:1099000000000≤N) (r:ai) (A:r.Pats.length≤1048576) (B:jQ r.Pats≤1048576) (hp:∀ p∈r.Pats,p.Args.length≤1048576):iN N r=some ((cN r.Pats).foldl dj []):=by
 unfold iN
 refine lp' b r.Pats MB (cR N r) (fun t s=>some ((cN t).foldl dj s)) (fun s t=>s.length+jQ t≤4294967290) [] (by simp;omega) (fun n s i x t h1 c C d k g h j=>?_) (fun n s i h1 c h=>?_)
 ·have D:s.length+(x.Args.length+jQ t)≤4294967290:=by simpa[jQ] using h
  have l:=hp x c
  simp only[cR,k,if_true,d,gf,Kq b x l,cN]
  have o:=lH (cM x.Args) []
  have E:=iS x.Args
  simp only[ha,ht] at o
  have key:cY N r i (cR N r n) ((cM x.Args).foldl dj []) N s 0=if x.Not then some ((cN t).foldl dj s) else some ((cN t).foldl dj (((cM x.Args).foldl dj []).foldl dj s)):=by
   cases e:x.Not with
   | true=>
    obtain⟨m,rfl⟩:∃ m,N=m+1:=⟨N - 1,MB⟩
    have q:=j s MB
    simp only[cY,d,gf,e,hA,g,q]
    split <;> rfl
   | false=>
    refine lp' b ((cM x.Args).foldl dj []) MB (cY N r i (cR N r n) ((cM x.Args).foldl dj [])) (fun u s=>some ((cN t).foldl dj (u.foldl dj s))) (fun s u=>s.length+u.length+jQ t≤4294967290) s MB (fun v a w y u g1 g2 g3 g4 g5 g6 f z=>?_) (fun v a w g1 g2 f=>?_)
    ·simp only[gx] at f
     simp only[cY,g5,if_true,d,gf,e,hG,g4,Kt b a y MB,ql,g6]
     have:=z (dj a y) (by have:=vl a y;omega)
     unfold dj at this ⊢
     by_cases hm:y∈a
     ·simp only[hm,if_true] at this
      simpa[hm] using this
     ·simp only[hm,if_false] at this
      simp only[hm,decide_false,hG,if_true,bD (show a.length+[y].length≤4294967296 by simp;omega),gf,if_false]
      exact this
    ·simp only[cY,g2,gh,if_false,gf,g]
     exact j a (by simp at f;omega)
  rw[show (cY N r i (cR N r n) ((cM x.Args).foldl dj []) N s 0)=_ from key]
  cases e:x.Not with
  | true=>simp
  | false=>simp[rs,BC]
 ·simp only[cR,c,gh,if_false];rfl
def iw (r:ai):List ByteArray:=(cN r.Pats).foldl dj []
theorem zm {r:ai} (h:jQ r.Pats≤1048576):(iw r).length≤1048576:=by
 have h1:=lH (cN r.Pats) []
 have a:=rN r.Pats
 unfold iw;simp at h1;omega
theorem Le {N:Nat} (d:1099000000000≤N) (xs:List ByteArray) (v:ByteArray) (c:xs.length≤4294967296):∃ r,dd N xs v=some r∧decide (0≤r)=decide (v∈xs):=by
 unfold dd
 have:=yE (bu N xs v) xs c (fun x=>seq v x) (fun n i x a _ b hw=>by simp only[bu,b,if_true,a,gf,hw]) (fun n i b=>by simp only[bu,b,gh,if_false]) N 0 MB MB
 rw[hE,show ((0:Nat):Int)=0 from rfl] at this
 refine⟨_,this,?_⟩
 rw[Hi,qu,List.any_eq_true,decide_eq_true_eq]
 simp only[kA,decide_eq_true_eq]
 constructor
 ·rintro⟨x,a,rfl⟩;exact a
 ·intro h;exact⟨v,h,rfl⟩
theorem IX {N:Nat} (a:1099000000000≤N) (xs:List ByteArray) (v:ByteArray) (b:xs.length≤4294967296):bX N xs v=some (decide (v∈xs)):=by
 unfold bX
 obtain⟨r,h1,c⟩:=Le a xs v b
 rw[h1,gf,c]
theorem HQ {N:Nat} (a:1099000000000≤N) (s:List ByteArray) (v:ByteArray) (b:s.length≤4294967295):nq N s v=some (dj s v):=by
 unfold nq dj
 rw[IX a s v MB,gf]
 by_cases h:v∈s
 ·simp[h]
 ·simp only[h,decide_false,gh,if_false,bD (show s.length+[v].length≤4294967296 by simp;omega),gf]
theorem vO {N:Nat} (a:1099000000000≤N) (l:List bn) (s:List ByteArray) (e:s.length+l.length≤4294967290):jJ N s l=some ((cM l).foldl dj s):=by
 unfold jJ
 refine lp' a l MB (fm N l) (fun t s=>some ((cM t).foldl dj s)) (fun s t=>s.length+t.length≤4294967290) s e (fun n s i x t h1 b k f g j c d=>?_) (fun n s i h1 b c=>?_)
 ·simp only[gx] at c
  simp only[fm,g,if_true,f,gf,j,cM,HQ a s x.S MB]
  by_cases h:x.K=1
  ·simp only[h,decide_true,if_true,ql]
   exact d _ (by have:=vl s x.S;omega)
  ·simp only[h,decide_false,gh,if_false]
   exact d _ MB
 ·simp only[fm,b,gh,if_false];rfl
theorem Ff {N:Nat} (b:1099000000000≤N) (r:ai) (h:r.Pats.length≤1048576) (j:jQ r.Pats≤1048576):lF N r=some ((cN r.Pats).foldl dj []):=by
 unfold lF
 refine lp' b r.Pats MB (fb N r) (fun t s=>some ((cN t).foldl dj s)) (fun s t=>s.length+jQ t≤4294967290) [] (by simp;omega) (fun n s i x t h1 a k e f g c d=>?_) (fun n s i h1 a c=>?_)
 ·have l:s.length+(x.Args.length+jQ t)≤4294967290:=by simpa[jQ] using c
  simp only[fb,f,if_true,e,gf,g,cN,vO b x.Args s MB]
  cases m:x.Not with
  | true=>simpa using d s MB
  | false=>
   have h1:=iS x.Args
   have a:=lH (cM x.Args) s
   simpa[rs] using d _ (show ((cM x.Args).foldl dj s).length+jQ t≤4294967290 by omega)
 ·simp only[fb,a,gh,if_false];rfl
def af:List au→Nat
 | []=>0
 | p :: t=>if p.Not then af t else af t+1
theorem dp:∀ (l:List au),af l≤l.length
 | []=>by simp[af]
 | p :: t=>by have:=dp t;unfold af;split <;> simp <;> omega
theorem vk {N:Nat} (d:1099000000000≤N) (r:ai) (h:r.Pats.length≤1048576):gT N r=some (af r.Pats:Int):=by
 unfold gT
 have:=lp' d r.Pats MB (dD N r) (fun t s=>some (s+(af t:Int))) (fun s t=>0≤s∧s+t.length≤1048576) (0:Int) (by simp;omega) (fun n s i x t h1 a j e f g b c=>by
  simp only[gx] at b
  simp only[dD,f,if_true,e,gf,g,af]
  cases k:x.Not with
  | true=>simpa using c s MB
  | false=>
   rw[wr (n:=s+1) MB MB]
   have:=c (s+1) MB
   simp only[hG,if_true,this,gh,if_false]
   congr 1;omega) (fun n s i h1 a b=>by simp only[dD,a,gh,if_false,af];simp)
 simpa using this
theorem Dg {N:Nat} (d:1099000000000≤N) (r:ai) (h:r.Pats.length≤1048576):iY N r=some (af r.Pats:Int):=by
 unfold iY
 have:=lp' d r.Pats MB (dG N r) (fun t s=>some (s+(af t:Int))) (fun s t=>0≤s∧s+t.length≤1048576) (0:Int) (by simp;omega) (fun n s i x t h1 a j e f g b c=>by
  simp only[gx] at b
  simp only[dG,f,if_true,e,gf,g,af]
  cases k:x.Not with
  | true=>simpa using c s MB
  | false=>
   rw[wr (n:=s+1) MB MB]
   have:=c (s+1) MB
   simp only[hG,if_true,this,gh,if_false]
   congr 1;omega) (fun n s i h1 a b=>by simp only[dG,a,gh,if_false,af];simp)
 simpa using this
def iO (vs:List ByteArray) (a:bn):Bool:=!decide (a.K=1) || decide (a.S∈vs)
theorem AL {N:Nat} (b:1099000000000≤N) (a:bn) (vs:List ByteArray) (h:vs.length≤4294967296):hY N a vs=some (iO vs a):=by
 unfold hY iO
 simp only[Kt b vs a.S h,gf,Mr]
def eh (c:Nat):Nat→List au→Bool
 | _,[]=>true
 | i,p :: t=>lA p && ((p.Not == decide (c≤i)) && eh c (i+1) t)
def gK (l:List au):Bool:=(decide (1≤l.length) && decide (l.length≤6)) && ((decide (1≤af l) && decide (af l≤3)) && eh (af l) 0 l)
theorem JY {N:Nat} (b:1099000000000≤N) (r:ai) (d:r.Pats.length≤1048576) (hp:∀ p∈r.Pats,zO p):oV N r=some (gK r.Pats):=by
 have c:=Dg b r d
 have lp:∀ (n i:Nat),i≤r.Pats.length→r.Pats.length - i < n→eK N r n i=some (eh (af r.Pats) i (r.Pats.drop i)):=by
  intro n
  induction n with
  | zero=>intro i _ h;omega
  | succ n e=>
   intro i m o
   by_cases a:i < r.Pats.length
   ·have c1:decide ((i:Int) < (r.Pats.length:Int))=true:=decide_eq_true MB
    rw[ho a]
    simp only[eK,c1,if_true,an a,gf,L4 b _ (hp _ (hz a)),c,wr1 i MB,e (i+1) MB MB,eh]
    have f:decide ((af r.Pats:Int)≤(i:Int))=decide (af r.Pats≤i):=by rw[decide_eq_decide];omega
    rw[f]
    cases lA r.Pats[i] <;> cases r.Pats[i].Not <;> cases decide (af r.Pats≤i) <;> rfl
   ·have c1:decide ((i:Int) < (r.Pats.length:Int))=false:=decide_eq_false MB
    rw[hy MB]
    simp only[eK,c1,gh,if_false];rfl
 have g:=lp N 0 MB MB
 have h1:decide ((1:Int)≤(r.Pats.length:Int))=decide (1≤r.Pats.length):=by rw[decide_eq_decide];omega
 have j:decide ((r.Pats.length:Int)≤6)=decide (r.Pats.length≤6):=by rw[decide_eq_decide];omega
 have k:decide ((1:Int)≤(af r.Pats:Int))=decide (1≤af r.Pats):=by rw[decide_eq_decide];omega
 have l:decide ((af r.Pats:Int)≤3)=decide (af r.Pats≤3):=by rw[decide_eq_decide];omega
 unfold oV gK
 simp only[in1,gf,c,h1,j,k,l]
 rw[show eK N r N 0=_ from g,hE]
 cases (decide (1≤r.Pats.length) && decide (r.Pats.length≤6)) <;> cases (decide (1≤af r.Pats) && decide (af r.Pats≤3)) <;> rfl
def uL:Nat→Bool→List au→Bool
 | _,_,[]=>true
 | i,b,p :: t=>!(decide (2 < i) && !p.Not) && (lA p && (!(decide (i=0) && p.Not) && (!((decide (0 < i) && b) && !p.Not) && uL (i+1) p.Not t)))
theorem FW:∀ (l:List au) (i:Nat),0 < i→uL i true l=(l.all lA && l.all fun p=>p.Not)
 | [],i,h=>rfl
 | p :: t,i,h=>by
  have h1:decide (i=0)=false:=decide_eq_false MB
  have a:decide (0 < i)=true:=decide_eq_true h
  unfold uL
  simp only[h1,a,p5,hG,hK,ix]
  cases hp:p.Not with
  | false=>cases lA p <;> simp
  | true=>
   rw[FW t (i+1) MB]
   cases lA p <;> simp
theorem Ac (c:Nat):∀ (l:List au) (i:Nat),c≤i→eh c i l=(l.all lA && l.all fun p=>p.Not)
 | [],i,h=>rfl
 | p :: t,i,h=>by
  have h1:decide (c≤i)=true:=decide_eq_true h
  unfold eh
  rw[Ac c t (i+1) MB,h1]
  simp only[ix]
  cases lA p <;> cases p.Not <;> simp
theorem nX:∀ (l:List au),(l.all fun p=>p.Not)=true↔af l=0
 | []=>by simp[af]
 | p :: t=>by
  unfold af
  have:=nX t
  cases hp:p.Not with
  | true=>simp[hp];simpa using this
  | false=>simp[hp]
theorem zS:∀ (l:List au) (i:Nat) (b:Bool),(0 < i→b=false)→i≤3→(uL i b l=true↔(i=0→l=[]∨0 < af l)∧i+af l≤3∧eh (i+af l) i l=true)
 | [],i,b,g,j=>by simp[uL,af,eh,j]
 | p :: t,i,b,g,j=>by
  have k:(decide (0 < i) && b)=false:=by
   by_cases h:0 < i
   ·simp[g h]
   ·simp[h]
  unfold uL eh af
  rw[k]
  cases hp:p.Not with
  | true=>
   simp only[hA,rr,hG,hK,if_true,q7,p5]
   by_cases f:i=0
   ·subst f
    simp only[decide_true,hA,rr,p5,gh,false_iff]
    rintro⟨h1,d,a⟩
    have h1:0 < af t:=by simpa using h1
    simp only[gI,beq_iff_eq] at a
    have:=a.2.1
    simp at this
    omega
   ·rw[decide_eq_false f,FW t (i+1) MB]
    simp only[hG,hK,gI,beq_iff_eq,f,false_implies,true_and]
    constructor
    ·rintro⟨h1,d,a⟩
     have c:=(nX t).1 a
     rw[c]
     refine⟨MB,h1,MC,?_⟩
     rw[Ac _ t (i+1) MB,d,a];rfl
    ·rintro⟨h1,d,a,c⟩
     have e:i+af t≤i:=by simpa using a
     have m:af t=0:=by omega
     exact⟨d,by
      rw[Ac _ t (i+1) MB] at c
      simp only[gI] at c
      exact c.1,(nX t).2 m⟩
  | false=>
   simp only[hG,q7,rr,hK,gh,if_false,gI,beq_iff_eq]
   have n:decide (i+(af t+1)≤i)=false:=decide_eq_false MB
   rw[n]
   have o:i+(af t+1)=i+1+af t:=by omega
   by_cases d:2 < i
   ·simp only[d,decide_true,hA,gh,false_and,false_iff]
    rintro⟨_,a,_⟩;omega
   ·have:=zS t (i+1) false (fun _=>rfl) MB
    simp only[d,decide_false,hG,true_and]
    rw[this,o]
    constructor
    ·rintro⟨a,_,c,e⟩
     refine⟨fun _=>.inr MB,c,a,?_⟩
     first | exact⟨rfl,e⟩ | exact e
    ·rintro⟨_,c,a,e⟩
     refine⟨a,MB,c,?_⟩
     first | exact e.2 | exact e
theorem Eu (l:List au):(uL 0 false l && (decide (1≤l.length) && decide (l.length≤6)))=gK l:=by
 have:=zS l 0 false MC MB
 simp only[true_implies,ht] at this
 rw[qu]
 unfold gK
 simp only[gI,decide_eq_true_eq,this]
 constructor
 ·rintro⟨⟨h1,b,c⟩,a,d⟩
  have h1:=h1.resolve_left (by rintro rfl;simp at a)
  exact⟨⟨a,d⟩,⟨MB,b⟩,c⟩
 ·rintro⟨⟨a,d⟩,⟨h1,b⟩,c⟩
  exact⟨⟨.inr MB,b,c⟩,a,d⟩
theorem Ka {N:Nat} (f:1099000000000≤N) (l:List au) (r:l.length≤1048576) (hp:∀ p∈l,zO p):p9 N l=some (gK l):=by
 have lp:∀ (n i:Nat) (b:Bool),i≤l.length→l.length - i < n→(∀ (h:i - 1 < l.length),0 < i→l[i - 1].Not=b)→eT N l n i=some (uL i b (l.drop i) && (decide (1≤l.length) && decide (l.length≤6))):=by
  intro n
  induction n with
  | zero=>intro i b _ h;omega
  | succ n g=>
   intro i b s t j
   by_cases a:i < l.length
   ·have c1:decide ((i:Int) < (l.length:Int))=true:=decide_eq_true MB
    have c:decide ((2:Int) < (i:Int))=decide (2 < i):=by rw[decide_eq_decide];omega
    have k:decide ((i:Int)=0)=decide (i=0):=by rw[decide_eq_decide];omega
    have m:decide ((0:Int) < (i:Int))=decide (0 < i):=by rw[decide_eq_decide];omega
    rw[ho a]
    simp only[eT,c1,if_true,an a,gf,LA f _ (hp _ (hz a)),c,k,m,wr1 i MB,g (i+1) l[i].Not MB MB (fun h _=>rfl),uL]
    by_cases d:0 < i
    ·have o:IntKind.i64.wrap ((i:Int) - 1)=((i - 1:Nat):Int):=by rw[wr MB MB];omega
     have q:=j MB d
     have e:decide (i=0)=false:=decide_eq_false MB
     simp only[d,decide_true,if_true,o,an (show i - 1 < l.length by omega),gf,q,e]
     cases decide (2 < i) <;> cases l[i].Not <;> cases lA l[i] <;> cases b <;> simp
    ·have e:decide (i=0)=true:=decide_eq_true MB
     simp only[d,decide_false,gh,if_false,gf,e]
     cases decide (2 < i) <;> cases l[i].Not <;> cases lA l[i] <;> simp
   ·have c1:decide ((i:Int) < (l.length:Int))=false:=decide_eq_false MB
    have h1:decide ((1:Int)≤(l.length:Int))=decide (1≤l.length):=by rw[decide_eq_decide];omega
    have c:decide ((l.length:Int)≤6)=decide (l.length≤6):=by rw[decide_eq_decide];omega
    rw[hy MB]
    simp only[eT,c1,gh,if_false,in0,gf,h1,c];rfl
 unfold p9
 rw[show eT N l N 0=_ from lp N 0 false MB MB (fun _ h=>by omega),hE,Eu]
def ox (vs:List ByteArray) (c:ce):Bool:=pj c && (iO vs c.L && iO vs c.R)
theorem HB {N:Nat} (a:1099000000000≤N) (l:List ce) (vs:List ByteArray) (e:l.length≤1048576) (h:∀ c∈l,y5 c) (b:vs.length≤4294967296):ni N l vs=some (l.all (ox vs) && decide (l.length≤6)):=by
 have d:decide ((l.length:Int)≤6)=decide (l.length≤6):=by rw[decide_eq_decide];omega
 unfold ni
 refine lp0 a l MB (fv N l vs) (fun t=>some (t.all (ox vs) && decide (l.length≤6))) (fun n i x t g1 g2 g3 g4 g5 g6 g7=>?_) (fun n i g1 g2=>?_)
 ·simp only[fv,g5,if_true,g4,gf,Jo a x (h x g2),AL a _ vs b,g6,g7,ix,ox]
  cases pj x <;> cases iO vs x.L <;> cases iO vs x.R <;> simp
 ·simp only[fv,g2,gh,if_false,d];rfl
def nc (vs:List ByteArray) (e:bY):Bool:=iO vs e.L && iO vs e.R
def pi (vs:List ByteArray) (pos:Nat) (a:cA):Bool:=oX a && (!(decide (a.Kind=2) && decide ((pos:Int)≤a.N)) && a.Args.all (nc vs))
theorem JC {N:Nat} (a:1099000000000≤N) (l:List cA) (vs:List ByteArray) (pos:Nat) (r:l.length≤1048576) (h:∀ c∈l,zP c) (e:vs.length≤4294967296):pM N l vs pos=some (l.all (pi vs pos) && (decide (1≤l.length) && decide (l.length≤6))):=by
 have h1:decide ((1:Int)≤(l.length:Int))=decide (1≤l.length):=by rw[decide_eq_decide];omega
 have f:decide ((l.length:Int)≤6)=decide (l.length≤6):=by rw[decide_eq_decide];omega
 unfold pM
 refine lp0 a l MB (dA N l vs pos) (fun t=>some (t.all (pi vs pos) && (decide (1≤l.length) && decide (l.length≤6)))) (fun n i x t g1 g2 g3 g4 g5 g6 g7=>?_) (fun n i g1 g2=>?_)
 ·have b:=h x g2
  have inner:=lp0 a x.Args (by have:=b.2.2.1;omega) (gq N l vs i (dA N l vs pos n)) (fun u=>some (u.all (nc vs) && (t.all (pi vs pos) && (decide (1≤l.length) && decide (l.length≤6))))) (fun g j y u k d s m o p q=>by
   simp only[gq,g4,gf,o,if_true,m,AL a _ vs e,p,q,ix,nc]
   cases iO vs y.L <;> cases iO vs y.R <;> simp) (fun g j k d=>by
   simp only[gq,g4,gf,d,gh,if_false,g6,g7,Gs,hK])
  simp only[dA,g5,if_true,g4,gf,L5 a x b,inner,ix,pi]
  cases oX x <;> cases decide (x.Kind=2) <;> cases decide ((pos:Int)≤x.N) <;> simp[K3]
 ·simp only[dA,g2,gh,if_false,in0,gf,h1,f];rfl
def Ae (r:ai):Prop:=r.Name.size≤1048576∧(r.Pats.length≤1048576∧∀ p∈r.Pats,zO p)∧(r.Conds.length≤1048576∧∀ c∈r.Conds,y5 c)∧(r.Acts.length≤1048576∧∀ a∈r.Acts,zP a)∧jQ r.Pats≤1048576∧(r.Acts.map fun a=>a.Args.length).sum≤1048576
def im (r:ai):Bool:=dU r.Name && ((decide (-100≤r.Sal) && decide (r.Sal≤100)) && (gK r.Pats && ((r.Conds.all (ox (iw r)) && decide (r.Conds.length≤6)) && (r.Acts.all (pi (iw r) (af r.Pats)) && (decide (1≤r.Acts.length) && decide (r.Acts.length≤6))))))
theorem Kl {N:Nat} (a:1099000000000≤N) (r:ai) (h:Ae r):pf N r=some (im r):=by
 obtain⟨h1,⟨b,c⟩,⟨d,e⟩,⟨f,g⟩,h5,h6⟩:=h
 have l:=zm h5
 unfold pf im
 have i:=HB a _ (iw r) d e MB
 have j:=JC a _ (iw r) (af r.Pats) f g MB
 have k:iN N r=some (iw r):=zl a r b h5 (fun p hp=>(c p hp).2.1)
 simp only[k,gf,ri a _ h1,in0,Ka a _ b c,i,vk a r b,j,nK,K3]
def cG:List ce→List ByteArray
 | []=>[]
 | c :: t=>cM [c.L,c.R]++cG t
def gO:List bY→List ByteArray
 | []=>[]
 | e :: t=>cM [e.L,e.R]++gO t
def cW:List cA→List ByteArray
 | []=>[]
 | a :: t=>gO a.Args++cW t
theorem tE:∀ (l:List ce),(cG l).length≤2*l.length
 | []=>by simp[cG]
 | c :: t=>by have:=tE t;have:=iS [c.L,c.R];simp[cG] at *;omega
theorem tz:∀ (l:List bY),(gO l).length≤2*l.length
 | []=>by simp[gO]
 | c :: t=>by have:=tz t;have:=iS [c.L,c.R];simp[gO] at *;omega
def lX (l:List cA):Nat:=(l.map fun a=>a.Args.length).sum
theorem uO:∀ (l:List cA),(cW l).length≤2*lX l
 | []=>by simp[cW,lX]
 | a :: t=>by have:=uO t;have:=tz a.Args;simp[cW,lX] at *;omega
theorem Lu {N:Nat} (d:1099000000000≤N) (x:cA) (a:Nat) (K:List ByteArray→Int→Option (List ByteArray)) (l:List cA) (g:List ByteArray→Option (List ByteArray)) (s:List ByteArray) (p:s.length+2*x.Args.length≤4294967280) (q:x.Args.length≤1048576) (r:a≤1048576)
  (f:∀ b,b.length≤s.length+2*x.Args.length→K b ((a+1:Nat):Int)=g b):eC N a K x N s 0=g ((gO x.Args).foldl dj s):=by
 refine lp' d x.Args MB (eC N a K x) (fun t s=>g ((gO t).foldl dj s)) (fun u t=>u.length+2*t.length≤s.length+2*x.Args.length) s MB (fun n u i y t h1 e v h j k c m=>?_) (fun n u i h1 e c=>?_)
 ·simp only[gx] at c
  have w:=lH (cM [y.L,y.R]) u
  have o:=iS [y.L,y.R]
  simp only[gx,ha] at o
  simp only[eC,j,if_true,h,gf,vO d [y.L,y.R] u (by simp;omega),k,gO,rs]
  exact m _ MB
 ·simp only[eC,e,gh,if_false,wr1 a MB,gO]
  exact f u (by simpa using c)
theorem JB {N:Nat} (d:1099000000000≤N) (r:ai) (o:r.Conds.length≤1048576) (j:r.Acts.length≤1048576) (l:∀ a∈r.Acts,a.Args.length≤1048576) (he:lX r.Acts≤1048576):m5 N r=some ((cG r.Conds++cW r.Acts).foldl dj []):=by
 unfold m5
 have a2:∀ s:List ByteArray,s.length≤4194304→d7 N r N s 0=some ((cW r.Acts).foldl dj s):=fun s p=>
  lp' d r.Acts MB (d7 N r) (fun t s=>some ((cW t).foldl dj s)) (fun s t=>s.length+2*lX t≤16777216) s MB (fun n u i x t h1 b m e f k c g=>by
   have q:u.length+2*(x.Args.length+lX t)≤16777216:=by simpa[lX] using c
   simp only[d7,f,if_true,e,gf,cW,rs]
   exact Lu d x i (d7 N r n) r.Acts (fun h=>some ((cW t).foldl dj h)) u MB (l x b) MB (fun h v=>g h MB)) (fun n u i h1 b c=>by simp only[d7,b,gh,if_false];rfl)
 refine lp' d r.Conds MB (fJ N r) (fun t s=>some ((cG t++cW r.Acts).foldl dj s)) (fun s t=>s.length+2*t.length≤4194304) [] (by simp;omega) (fun n u i x t h1 b m e f k c g=>?_) (fun n u i h1 b c=>?_)
 ·simp only[gx] at c
  have w:=lH (cM [x.L,x.R]) u
  have j:=iS [x.L,x.R]
  simp only[gx,ha] at j
  simp only[fJ,f,if_true,e,gf,vO d [x.L,x.R] u (by simp;omega),k,cG,gk]
  rw[rs]
  exact g _ MB
 ·simp only[fJ,b,gh,if_false,cG,hB]
  exact a2 u (by simpa using c)
theorem zT (vs:List ByteArray) (a b:bn):(iO vs a && iO vs b)=true↔∀ x∈cM [a,b],x∈vs:=by
 unfold iO
 simp only[nQ,hC,List.not_mem_nil,or_false,gI,Bool.or_eq_true,Bool.not_eq_true',decide_eq_false_iff_not,decide_eq_true_eq]
 constructor
 ·rintro⟨h1,e⟩ x ⟨c,rfl | rfl,d,rfl⟩
  ·exact h1.resolve_left (fun h=>h d)
  ·exact e.resolve_left (fun h=>h d)
 ·intro h
  refine⟨?_,?_⟩
  ·by_cases h1:a.K=1
   ·exact .inr (h _ ⟨a,.inl rfl,h1,rfl⟩)
   ·exact .inl h1
  ·by_cases h1:b.K=1
   ·exact .inr (h _ ⟨b,.inr rfl,h1,rfl⟩)
   ·exact .inl h1
theorem tL (vs:List ByteArray):∀ (l:List ce),(∀ x∈cG l,x∈vs)↔∀ c∈l,(iO vs c.L && iO vs c.R)=true
 | []=>by simp[cG]
 | c :: t=>by
  simp only[cG,gb,or_imp,forall_and,tL vs t,hC,forall_eq,zT]
theorem u7 (vs:List ByteArray):∀ (l:List bY),(∀ x∈gO l,x∈vs)↔∀ c∈l,nc vs c=true
 | []=>by simp[gO]
 | c :: t=>by
  simp only[gO,gb,or_imp,forall_and,u7 vs t,hC,forall_eq,nc,zT]
theorem vq (vs:List ByteArray):∀ (l:List cA),(∀ x∈cW l,x∈vs)↔∀ a∈l,a.Args.all (nc vs)=true
 | []=>by simp[cW]
 | c :: t=>by
  simp only[cW,gb,or_imp,forall_and,vq vs t,hC,forall_eq,u7,l4]
theorem Jy {N:Nat} (j:1099000000000≤N) (r:ai) (h:Ae r):pR N r=some (im r):=by
 obtain⟨h1,⟨l,p⟩,⟨q,s⟩,⟨u,o⟩,h5,h6⟩:=h
 have D:=zm h5
 have v:lF N r=some (iw r):=Ff j r l h5
 have w:=JB j r q u (fun a y=>(o a y).2.2.1) h6
 have ul:((cG r.Conds++cW r.Acts).foldl dj []).length≤4294967296:=by
  have k:=lH (cG r.Conds++cW r.Acts) []
  have a2:=tE r.Conds
  have a3:=uO r.Acts
  have a4:lX r.Acts≤1048576:=h6
  simp only[hd,ha] at k;omega
 have z:eP N (iw r) ((cG r.Conds++cW r.Acts).foldl dj []) N 0=some (((cG r.Conds++cW r.Acts).foldl dj []).all fun x=>decide (x∈iw r)):=
  lp0 j _ ul (eP N (iw r) _) (fun t=>some (t.all fun x=>decide (x∈iw r))) (fun n i x t g1 g2 g3 g4 g5 g6 g7=>by
   simp only[eP,g5,if_true,g4,gf,IX j _ x (show (iw r).length≤4294967296 by omega),g6,g7,ix]
   cases decide (x∈iw r) <;> rfl) (fun n i g1 g2=>by simp only[eP,g2,gh,if_false];rfl)
 have A:f9 N r N 0=some ((r.Acts.all fun a=>oX a && !(decide (a.Kind=2) && decide ((af r.Pats:Int)≤a.N))) && ((cG r.Conds++cW r.Acts).foldl dj []).all fun x=>decide (x∈iw r)):=
  lp0 j r.Acts MB (f9 N r) (fun t=>some ((t.all fun a=>oX a && !(decide (a.Kind=2) && decide ((af r.Pats:Int)≤a.N))) && ((cG r.Conds++cW r.Acts).foldl dj []).all fun x=>decide (x∈iw r))) (fun n i x t g1 g2 g3 g4 g5 g6 g7=>by
   simp only[f9,g5,if_true,g4,gf,Lj j x (o x g2),Dg j r l,g6,g7,ix]
   cases oX x <;> cases decide (x.Kind=2) <;> cases decide ((af r.Pats:Int)≤x.N) <;> simp) (fun n i g1 g2=>by
   simp only[f9,g2,gh,if_false,v,w,gf,z];rfl)
 have B:eY N r N 0=some (r.Conds.all pj && ((r.Acts.all fun a=>oX a && !(decide (a.Kind=2) && decide ((af r.Pats:Int)≤a.N))) && ((cG r.Conds++cW r.Acts).foldl dj []).all fun x=>decide (x∈iw r))):=
  lp0 j r.Conds MB (eY N r) (fun t=>some (t.all pj && ((r.Acts.all fun a=>oX a && !(decide (a.Kind=2) && decide ((af r.Pats:Int)≤a.N))) && ((cG r.Conds++cW r.Acts).foldl dj []).all fun x=>decide (x∈iw r)))) (fun n i x t g1 g2 g3 g4 g5 g6 g7=>by
   simp only[eY,g5,if_true,g4,gf,JU j x (s x g2),g6,g7,ix]
   cases pj x <;> simp) (fun n i g1 g2=>by
   simp only[eY,g2,gh,if_false,A];rfl)
 have d1:decide ((6:Int) < (r.Conds.length:Int)) = !decide (r.Conds.length≤6):=by rw[← decide_not,decide_eq_decide];omega
 have d2:decide ((1:Int)≤(r.Acts.length:Int))=decide (1≤r.Acts.length):=by rw[decide_eq_decide];omega
 have d3:decide ((r.Acts.length:Int)≤6)=decide (r.Acts.length≤6):=by rw[decide_eq_decide];omega
 have key:(r.Conds.all pj && ((r.Acts.all fun a=>oX a && !(decide (a.Kind=2) && decide ((af r.Pats:Int)≤a.N))) && ((cG r.Conds++cW r.Acts).foldl dj []).all fun x=>decide (x∈iw r)))=(r.Conds.all (ox (iw r)) && r.Acts.all (pi (iw r) (af r.Pats))):=by
  rw[qu]
  have C:(((cG r.Conds++cW r.Acts).foldl dj []).all fun x=>decide (x∈iw r))=true↔(∀ c∈r.Conds,(iO (iw r) c.L && iO (iw r) c.R)=true)∧∀ a∈r.Acts,a.Args.all (nc (iw r))=true:=by
   rw[← tL,← vq]
   simp only[l4,decide_eq_true_eq,ru,List.not_mem_nil,false_or,gb,or_imp,forall_and]
  rw[gI,gI,gI,C]
  simp only[l4,ox,pi,gI,forall_and,and_imp]
  constructor
  ·rintro⟨k,⟨a2,a3⟩,⟨a4,a5⟩,m⟩;exact⟨⟨k,a4,a5⟩,a2,a3,m⟩
  ·rintro⟨⟨k,a4,a5⟩,a2,a3,m⟩;exact⟨k,⟨a2,a3⟩,⟨a4,a5⟩,m⟩
 unfold pR im
 simp only[qV j _ h1,gf,in1,JY j r l p,d1,d2,d3,B,key]
 generalize dU r.Name=a;generalize gK r.Pats=b;generalize (decide (-100≤r.Sal) && decide (r.Sal≤100))=c;generalize decide (r.Conds.length≤6)=d;generalize (decide (1≤r.Acts.length) && decide (r.Acts.length≤6))=e
 generalize r.Conds.all (ox (iw r))=f;generalize r.Acts.all (pi (iw r) (af r.Pats))=g
 cases a <;> cases b <;> cases c <;> cases d <;> cases e <;> cases f <;> cases g <;> rfl
def rR (l:List ai) (v:ByteArray):Int:=match l.findIdx? (fun r=>seq r.Name v) with | some j=>(j:Int) | none=>-1
theorem LW {N:Nat} (e:1099000000000≤N) (d:bo) (v:ByteArray) (f:d.Rules.length≤1048576):pK N d v=some (rR d.Rules v):=by
 unfold pK rR
 have a:=yE (fX N d v) d.Rules MB (fun x=>seq x.Name v) (fun n i x c _ b hw=>by simp only[fX,b,if_true,c,gf,hw]) (fun n i b=>by simp only[fX,b,gh,if_false]) N 0 MB MB
 rw[show ((0:Nat):Int)=0 from rfl,hE] at a
 rw[a]
 cases d.Rules.findIdx? (fun r=>seq r.Name v) <;> simp
theorem Ms {N:Nat} (e:1099000000000≤N) (d:bo) (v:ByteArray) (f:d.Rules.length≤1048576):oS N d v=some (rR d.Rules v):=by
 unfold oS dl rR
 have b:=yE (bf N d.Rules (fun a0=>jv N a0 v)) d.Rules MB (fun x=>seq x.Name v) (fun n i x c _ a hw=>by simp only[bf,jv,a,if_true,c,gf,hw]) (fun n i a=>by simp only[bf,a,gh,if_false]) N 0 MB MB
 rw[show ((0:Nat):Int)=0 from rfl,hE] at b
 rw[b]
 cases d.Rules.findIdx? (fun r=>seq r.Name v) <;> simp
def gP (all:List ai):Nat→List ai→Bool
 | _,[]=>true
 | i,r :: t=>im r && (decide (rR all r.Name=(i:Int)) && gP all (i+1) t)
def lh (d:bo):Bool:=dU d.Name && ((decide (1≤d.Rules.length) && decide (d.Rules.length≤12)) && gP d.Rules 0 d.Rules)
def uM (d:bo):Prop:=d.Name.size≤1048576∧d.Rules.length≤1048576∧∀ r∈d.Rules,Ae r
theorem KP {N:Nat} (a:1099000000000≤N) (d:bo) (h:uM d):rq N d=some (lh d):=by
 obtain⟨h1,c,e⟩:=h
 have lp:∀ (n i:Nat),i≤d.Rules.length→d.Rules.length - i < n→fV N d n i=some (gP d.Rules i (d.Rules.drop i)):=by
  intro n
  induction n with
  | zero=>intro i _ h;omega
  | succ n f=>
   intro i j k
   by_cases b:i < d.Rules.length
   ·have c1:decide ((i:Int) < (d.Rules.length:Int))=true:=decide_eq_true MB
    rw[ho b]
    simp only[fV,c1,if_true,an b,gf,Jy a _ (e _ (hz b)),Ms a d _ c,wr1 i MB,f (i+1) MB MB,gP]
    cases im d.Rules[i] <;> cases decide (rR d.Rules d.Rules[i].Name=(i:Int)) <;> simp
   ·have c1:decide ((i:Int) < (d.Rules.length:Int))=false:=decide_eq_false MB
    rw[hy MB]
    simp only[fV,c1,gh,if_false];rfl
 have g:=lp N 0 MB MB
 have d1:decide ((1:Int)≤(d.Rules.length:Int))=decide (1≤d.Rules.length):=by rw[decide_eq_decide];omega
 have d2:decide ((d.Rules.length:Int)≤12)=decide (d.Rules.length≤12):=by rw[decide_eq_decide];omega
 unfold rq lh
 simp only[qV a _ h1,gf,in1,d1,d2]
 rw[show fV N d N 0=_ from g,hE]
 cases dU d.Name <;> cases (decide (1≤d.Rules.length) && decide (d.Rules.length≤12)) <;> rfl
theorem Lw {N:Nat} (a:1099000000000≤N) (d:bo) (h:uM d):rh N d=some (lh d):=by
 obtain⟨h1,c,e⟩:=h
 have d1:decide ((1:Int)≤(d.Rules.length:Int))=decide (1≤d.Rules.length):=by rw[decide_eq_decide];omega
 have d2:decide ((d.Rules.length:Int)≤12)=decide (d.Rules.length≤12):=by rw[decide_eq_decide];omega
 have lp:∀ (n i:Nat),i≤d.Rules.length→d.Rules.length - i < n→fU N d n i=some (gP d.Rules i (d.Rules.drop i) && (dU d.Name && (decide (1≤d.Rules.length) && decide (d.Rules.length≤12)))):=by
  intro n
  induction n with
  | zero=>intro i _ h;omega
  | succ n f=>
   intro i j k
   by_cases b:i < d.Rules.length
   ·have c1:decide ((i:Int) < (d.Rules.length:Int))=true:=decide_eq_true MB
    rw[ho b]
    simp only[fU,c1,if_true,an b,gf,Kl a _ (e _ (hz b)),LW a d _ c,wr1 i MB,f (i+1) MB MB,gP]
    cases im d.Rules[i] <;> cases decide (rR d.Rules d.Rules[i].Name=(i:Int)) <;> simp
   ·have c1:decide ((i:Int) < (d.Rules.length:Int))=false:=decide_eq_false MB
    rw[hy MB]
    simp only[fU,c1,gh,if_false,ri a _ h1,in0,gf,d1,d2,nK,gP,hK]
 have g:=lp N 0 MB MB
 unfold rh lh
 rw[show fU N d N 0=_ from g,hE]
 cases gP d.Rules 0 d.Rules <;> simp
theorem mz {d:bo} (h:lh d=true):∀ r∈d.Rules,im r=true:=by
 unfold lh at h
 simp only[gI] at h
 have:∀ (l:List ai) (i:Nat),gP d.Rules i l=true→∀ r∈l,im r=true:=by
  intro l
  induction l with
  | nil=>intro i _ r a;cases a
  | cons x t c=>
   intro i b r a
   unfold gP at b
   simp only[gI] at b
   rcases hC.1 a with rfl | a
   ·exact b.1
   ·exact c _ b.2.2 r a
 exact this _ _ h.2.2
def bG (as:List ax) (a:ax):Int × List ax:=match as.findIdx? (fun x=>decide (x=a)) with | some j=>((j:Int),as) | none=>((as.length:Int),as++[a])
def bI:List ax→List Int→List Int→List au→List ax × List Int × List Int
 | as,p,n,[]=>(as,p,n)
 | as,p,n,x :: t=>if x.Not then bI (bG as (bb x)).2 p (n++[(bG as (bb x)).1]) t else bI (bG as (bb x)).2 (p++[(bG as (bb x)).1]) n t
def ey:List ax→List aR→List ai→bO
 | as,cs,[]=>⟨as,cs⟩
 | as,cs,r :: t=>ey (bI as [] [] r.Pats).1 (cs++[⟨(bI as [] [] r.Pats).2.1,(bI as [] [] r.Pats).2.2⟩]) t
def cc (d:bo):bO:=ey [] [] d.Rules
theorem ui {p:au} (h:p.Args.length≤1048576):kh (bb p):=by
 have h1:=yt p.Args
 have a:=DR p.Args 0
 exact⟨by show (jM p.Args).length≤_;omega,by show (ats 0 p.Args).length≤_;omega⟩
theorem qb (as:List ax) (a:ax):(bG as a).2.length≤as.length+1∧as.length≤(bG as a).2.length:=by
 unfold bG
 split <;> simp
theorem sN {P:ax→Prop} {as:List ax} {a:ax} (h:∀ x∈as,P x) (b:P a):∀ x∈(bG as a).2,P x:=by
 unfold bG
 split
 ·exact h
 ·intro x c
  rcases gb.1 c with h1 | h1
  ·exact h x h1
  ·simp at h1;rw[h1];exact b
theorem sO {P:ax→Prop}:∀ (t:List au) (as:List ax) (p n:List Int),(∀ x∈as,P x)→(∀ x∈t,P (bb x))→∀ x∈(bI as p n t).1,P x
 | [],as,p,n,h,_=>h
 | x :: t,as,p,n,h,a=>by
  unfold bI
  have:=sN h (a x MC)
  split
  ·exact sO t _ _ _ this fun y b=>a y (by simp[b])
  ·exact sO t _ _ _ this fun y b=>a y (by simp[b])
theorem sQ:∀ (t:List au) (as:List ax) (p n:List Int),(bI as p n t).1.length≤as.length+t.length∧(bI as p n t).2.1.length+(bI as p n t).2.2.length=p.length+n.length+t.length
 | [],as,p,n=>by simp[bI]
 | x :: t,as,p,n=>by
  have h1:=(qb as (bb x)).1
  unfold bI
  split
  ·have:=sQ t (bG as (bb x)).2 p (n++[(bG as (bb x)).1])
   simp only[hd,gx,ha] at this ⊢
   omega
  ·have:=sQ t (bG as (bb x)).2 (p++[(bG as (bb x)).1]) n
   simp only[hd,gx,ha] at this ⊢
   omega
def mo (l:List ai):Nat:=(l.map fun r=>r.Pats.length).sum
theorem mt (r:ai) (t:List ai):mo (r :: t)=r.Pats.length+mo t:=by simp[mo]
def vR (a:List ai):Prop:=a.length≤1048576∧mo a≤1048576∧∀ r∈a,∀ p∈r.Pats,p.Args.length≤1048576
theorem wZ {B:Nat}:∀ {l:List ai},(∀ r∈l,r.Pats.length≤B)→mo l≤l.length*B
 | [],_=>by simp[mo]
 | p :: t,h=>by
  have h1:=wZ (l:=t) fun q a=>h q (by simp[a])
  have b:=h p MC
  rw[mt,gx,hI];omega
theorem uB {c:Nat}:∀ (l:List au) (i:Nat),eh c i l=true→∀ p∈l,lA p=true
 | [],_,_,p,hp=>by cases hp
 | x :: t,i,h,p,hp=>by
  unfold eh at h
  simp only[gI] at h
  rcases hC.1 hp with rfl | hp
  ·exact h.1
  ·exact uB t _ h.2.2 p hp
theorem te {d:bo} (b:lh d=true):vR d.Rules:=by
 have h1:d.Rules.length≤12:=by
  unfold lh at b
  simp only[gI,decide_eq_true_eq] at b
  exact b.2.1.2
 have c:∀ r∈d.Rules,gK r.Pats=true:=fun r a=>by
  have:=mz b r a
  unfold im at this
  simp only[gI] at this
  exact this.2.2.1
 have f:∀ r∈d.Rules,r.Pats.length≤6:=fun r a=>by
  have:=c r a
  unfold gK at this
  simp only[gI,decide_eq_true_eq] at this
  exact this.1.2
 have g:=wZ f
 refine⟨MB,MB,fun r a p hp=>?_⟩
 have:=c r a
 unfold gK at this
 simp only[gI,decide_eq_true_eq] at this
 have e:=uB _ _ this.2.2 p hp
 unfold lA at e
 simp only[gI,decide_eq_true_eq] at e
 omega
theorem yo:∀ (l:List au),(l.filter fun x=>!x.Not).length+(l.filter fun x=>x.Not).length=l.length
 | []=>rfl
 | p :: t=>by
  have:=yo t
  simp only[k0]
  cases p.Not <;> simp <;> omega
theorem pE:∀ (l:List au),(l.filter fun x=>!x.Not).length=af l
 | []=>rfl
 | p :: t=>by
  have:=pE t
  simp only[k0,af]
  cases p.Not <;> simp[this]
theorem u9 {c:Nat}:∀ (l:List au) (i:Nat),eh c i l=true→l.filter (fun x=>!x.Not)=l.take (c - i)
 | [],i,_=>by simp
 | p :: t,i,h=>by
  unfold eh at h
  simp only[gI,beq_iff_eq] at h
  have h1:=h.2.1
  have a:=u9 t (i+1) h.2.2
  by_cases d:c≤i
  ·rw[decide_eq_true d] at h1
   have e:c - i=0:=by omega
   have b:c - (i+1)=0:=by omega
   rw[e,List.take_zero,k0,h1]
   rw[b,List.take_zero] at a
   simpa using a
  ·rw[decide_eq_false d] at h1
   obtain⟨k,hk⟩:∃ k,c - i=k+1:=⟨c - i - 1,MB⟩
   have b:c - (i+1)=k:=by omega
   rw[hk,y2,k0,h1,← b,← a]
   simp
theorem BB {l:List au} (h:gK l=true):l.filter (fun x=>!x.Not)=l.take (af l):=by
 unfold gK at h
 simp only[gI] at h
 have:=u9 l 0 h.2.2
 simpa using this
def KO (n:bO):Prop:=(n.Alphas.length≤1048576∧∀ a∈n.Alphas,kh a)∧n.Chains.length≤1048576∧∀ c∈n.Chains,c.Pos.length≤1048576∧c.Neg.length≤1048576
theorem BW {as:List ax} {a:ax} (c:as.length≤4611686018427387900):idx (bG as a).2 (bG as a).1=some a:=by
 unfold bG
 split
 ·rename_i j h
  rw[MJ] at h
  obtain⟨b,h1,_⟩:=h
  simp only[an b]
  simpa using h1
 ·simp only
  rw[an MC]
  simp
theorem HE {α:Type} {xs b:List α} {i:Int} {a:α} (h:idx xs i=some a):idx (xs++b) i=some a:=by
 obtain⟨c,h1,e⟩:=aa h
 unfold idx
 rw[if_pos c,List.getElem?_append_left MB]
 exact e
theorem Bu (as:List ax) (a:ax):∃ u,(bG as a).2=as++u:=by
 unfold bG
 split
 ·exact⟨[],MC⟩
 ·exact⟨[a],rfl⟩
theorem zf {as:List ax} {a:ax} (h:as.Nodup):(bG as a).2.Nodup:=by
 unfold bG
 split
 ·exact h
 ·rename_i b
  rw[MI] at b
  refine List.nodup_append.2 ⟨h,MC,?_⟩
  intro x d y c e
  simp at c;subst c;subst e
  have:=b x d
  simp at this
def At (A:List ax):List Int→List au→Prop
 | [],[]=>True
 | i :: l,p :: t=>idx A i=some (bb p)∧At A l t
 | _,_=>False
theorem At.ext {A u:List ax}:∀ {l:List Int} {t:List au},At A l t→At (A++u) l t
 | [],[],_=>trivial
 | i :: l,p :: t,h=>⟨HE h.1,h.2.ext⟩
theorem At.snoc {A:List ax} {i:Int} {p:au} (a:idx A i=some (bb p)):∀ {l:List Int} {t:List au},At A l t→At A (l++[i]) (t++[p])
 | [],[],_=>⟨a,trivial⟩
 | i :: l,p :: t,h=>⟨h.1,h.2.snoc a⟩
theorem At.len {A:List ax}:∀ {l:List Int} {t:List au},At A l t→l.length=t.length
 | [],[],_=>rfl
 | i :: l,p :: t,h=>by simp[h.2.len]
theorem At.get {A:List ax}:∀ {l:List Int} {t:List au},At A l t→∀ (k:Nat) (h1:k < l.length) (a:k < t.length),idx A l[k]=some (bb t[k])
 | [],[],_,k,h1,_=>by simp at h1
 | i :: l,p :: t,h,0,_,_=>h.1
 | i :: l,p :: t,h,k+1,h1,a=>h.2.get k (by simpa using h1) (by simpa using a)
theorem uj:∀ (t:List au) (as:List ax) (p n:List Int) (pp b:List au),as.length+t.length≤4194304→as.Nodup→At as p pp→At as n b →
  (∃ u,(bI as p n t).1=as++u)∧(bI as p n t).1.Nodup∧At (bI as p n t).1 (bI as p n t).2.1 (pp++t.filter fun x=>!x.Not)∧At (bI as p n t).1 (bI as p n t).2.2 (b++t.filter fun x=>x.Not)
 | [],as,p,n,pp,b,_,c,h1,d=>⟨⟨[],by simp[bI]⟩,c,by simpa[bI] using h1,by simpa[bI] using d⟩
 | x :: t,as,p,n,pp,b,k,c,h1,d=>by
  simp only[gx] at k
  obtain⟨u,hu⟩:=Bu as (bb x)
  have l:=(qb as (bb x)).1
  have f:=BW (as:=as) (a:=bb x) MB
  have g:=zf (a:=bb x) c
  have h:At (bG as (bb x)).2 p pp:=by rw[hu];exact h1.ext
  have i:At (bG as (bb x)).2 n b:=by rw[hu];exact d.ext
  unfold bI
  cases j:x.Not with
  | true=>
   simp only[if_true,k0,j,hA,gh,if_false]
   obtain⟨⟨w,e⟩,g1,g2,g3⟩:=uj t _ p (n++[(bG as (bb x)).1]) pp (b++[x]) MB g h (i.snoc f)
   exact⟨⟨u++w,by rw[e,hu,gk]⟩,g1,g2,by simpa using g3⟩
  | false=>
   simp only[gh,if_false,k0,j,hG,if_true]
   obtain⟨⟨w,e⟩,g1,g2,g3⟩:=uj t _ (p++[(bG as (bb x)).1]) n (pp++[x]) b MB g (h.snoc f) i
   exact⟨⟨u++w,by rw[e,hu,gk]⟩,g1,by simpa using g2,g3⟩
def Ats (A:List ax):List aR→List ai→Prop
 | [],[]=>True
 | c :: l,r :: t=>(At A c.Pos (r.Pats.filter fun x=>!x.Not)∧At A c.Neg (r.Pats.filter fun x=>x.Not))∧Ats A l t
 | _,_=>False
theorem Ats.ext {A u:List ax}:∀ {l:List aR} {t:List ai},Ats A l t→Ats (A++u) l t
 | [],[],_=>trivial
 | i :: l,p :: t,h=>⟨⟨h.1.1.ext,h.1.2.ext⟩,h.2.ext⟩
theorem Ats.snoc {A:List ax} {c:aR} {r:ai} (a:At A c.Pos (r.Pats.filter fun x=>!x.Not)∧At A c.Neg (r.Pats.filter fun x=>x.Not)):∀ {l:List aR} {t:List ai},Ats A l t→Ats A (l++[c]) (t++[r])
 | [],[],_=>⟨a,trivial⟩
 | i :: l,p :: t,h=>⟨h.1,h.2.snoc a⟩
theorem Ats.len {A:List ax}:∀ {l:List aR} {t:List ai},Ats A l t→l.length=t.length
 | [],[],_=>rfl
 | i :: l,p :: t,h=>by simp[h.2.len]
theorem Ats.get {A:List ax}:∀ {l:List aR} {t:List ai},Ats A l t→∀ (k:Nat) (h1:k < l.length) (a:k < t.length),At A l[k].Pos (t[k].Pats.filter fun x=>!x.Not)∧At A l[k].Neg (t[k].Pats.filter fun x=>x.Not)
 | [],[],_,k,h1,_=>by simp at h1
 | i :: l,p :: t,h,0,_,_=>h.1
 | i :: l,p :: t,h,k+1,h1,a=>h.2.get k (by simpa using h1) (by simpa using a)
theorem we:∀ (t:List ai) (as:List ax) (cs:List aR) (a:List ai),as.length+mo t≤4194304→as.Nodup→Ats as cs a →
  (ey as cs t).Alphas.Nodup∧Ats (ey as cs t).Alphas (ey as cs t).Chains (a++t)∧(ey as cs t).Alphas.length≤as.length+mo t
 | [],as,cs,a,_,b,h=>⟨b,by simpa[ey] using h,by simp[ey,mo]⟩
 | r :: t,as,cs,a,c,b,h=>by
  rw[mt] at c
  obtain⟨⟨u,e⟩,g1,g2,g3⟩:=uj r.Pats as [] [] [] [] MB b trivial trivial
  have d:=(sQ r.Pats as [] []).1
  have:=we t (bI as [] [] r.Pats).1 (cs++[⟨(bI as [] [] r.Pats).2.1,(bI as [] [] r.Pats).2.2⟩]) (a++[r]) MB g1 (Ats.snoc ⟨by simpa using g2,by simpa using g3⟩ (by rw[e];exact h.ext))
  unfold ey
  rw[mt]
  refine⟨this.1,by simpa using this.2.1,by have:=this.2.2;omega⟩
theorem rf {d:bo} (h:vR d.Rules):(cc d).Alphas.Nodup∧Ats (cc d).Alphas (cc d).Chains d.Rules∧(cc d).Alphas.length≤mo d.Rules:=by
 have a:=h.2.1
 have:=we d.Rules [] [] [] (by simp;omega) MC trivial
 unfold cc
 refine⟨this.1,by simpa using this.2.1,by simpa using this.2.2⟩
theorem DB {A:List ax} {l:List aR} {t:List ai} (h:Ats A l t):∀ c∈l,∃ r∈t,c.Pos.length+c.Neg.length=r.Pats.length:=by
 intro c b
 obtain⟨k,hk,rfl⟩:=List.getElem_of_mem b
 have a:k < t.length:=by rw[← h.len];exact hk
 have:=h.get k hk a
 exact⟨_,hz a,by rw[this.1.len,this.2.len,yo]⟩
theorem uD {P:ax→Prop}:∀ (t:List ai) (as:List ax) (cs:List aR),(∀ x∈as,P x)→(∀ r∈t,∀ p∈r.Pats,P (bb p))→∀ x∈(ey as cs t).Alphas,P x
 | [],as,cs,h,_=>h
 | r :: t,as,cs,h,a=>by
  unfold ey
  exact uD t _ _ (sO r.Pats as [] [] h (a r MC)) fun q b=>a q (by simp[b])
theorem zW:∀ {l:List ai} {r:ai},r∈l→r.Pats.length≤mo l
 | x :: t,r,h=>by
  rw[mt]
  rcases hC.1 h with rfl | h
  ·omega
  ·have:=zW h;omega
theorem uQ {d:bo} (h:vR d.Rules):KO (cc d):=by
 obtain⟨h1,b,j⟩:=rf h
 obtain⟨f,k,g⟩:=h
 refine⟨⟨MB,uD d.Rules [] [] MC fun r a p hp=>ui (g r a p hp)⟩,by rw[b.len];exact f,fun c i=>?_⟩
 obtain⟨r,a,e⟩:=DB b c i
 have:=zW a
 omega
def neg (l:List au):List au:=l.filter fun p=>p.Not
def okB (xs:List aw) (ps:List au) (r:List Int):List aq × Bool:=df xs (ps.take r.length) r []
def gD (xs:List aw) (ns:List au) (l:List aq):List Int:=ns.map fun p=>(yB p l xs:Int)
def nh (xs:List aw) (ps ns:List au) (row:List Int) (id:Int):List ah:=
 if (okB xs ps (row++[id])).2=true then [⟨row++[id],if row.length+1=ps.length then gD xs ns (okB xs ps (row++[id])).1 else []⟩] else []
def fM (xs:List aw) (ps ns:List au) (row ids:List Int):List ah:=ids.flatMap (nh xs ps ns row)
def iA (xs:List aw) (ps ns:List au) (id:Int) (k:Nat) (B F:List ah) (A:List Int):List ah:=
 if k=0 then fM xs ps ns [] [id] else B.flatMap (fun t=>fM xs ps ns t.Ids [id])++F.flatMap (fun t=>fM xs ps ns t.Ids A)
def lm (xs:List aw) (ps ns:List au) (id:Int) (A:Nat→List Int):Nat→List ao→List ah→List ah→List ao
 | _,[],_,_=>[]
 | k,L :: Ls,B,F=>⟨L.Toks++iA xs ps ns id k B F (A k)⟩ :: lm xs ps ns id A (k+1) Ls L.Toks (iA xs ps ns id k B F (A k))
def lI (f:aH) (l:List aq) (a:Int):List au→List Int→List Int
 | p :: ns,x :: h=>(if (bv p f l).2=true then IntKind.i64.wrap (x+a) else x) :: lI f l a ns h
 | _,h=>h
def jV (xs:List aw) (ps ns:List au) (f:aH) (a:Int) (b:List ah):List ah:=
 b.map fun t=>if (okB xs ps t.Ids).2=true then ⟨t.Ids,lI f (okB xs ps t.Ids).1 a ns t.Hits⟩ else t
def ue (as:List bm) (c:aR) (k:Nat):List Int:=match c.Pos[k]? with
 | some a=>(match idx as a with
  | some i=>i.L
  | none=>[])
 | none=>[]
def fN (xs:List aw) (ps ns:List au) (f:aH) (a:Int) (row:aP):aP:=match row.Levels[row.Levels.length - 1]? with
 | some L=>⟨row.Levels.set (row.Levels.length - 1) ⟨jV xs ps ns f a L.Toks⟩⟩
 | none=>row
def oL (xs:List aw) (as:List bm) (f:aH) (id:Int) (r:ai) (c:aR) (row:aP):aP:=
 ⟨lm xs (pos r.Pats) (neg r.Pats) id (ue as c) 0 (fN xs (pos r.Pats) (neg r.Pats) f 1 row).Levels [] []⟩
def o4 (g:ai→aR→aP→aP):List ai→List aR→List aP→List aP
 | r :: a,c :: cs,w :: ws=>g r c w :: o4 g a cs ws
 | _,_,ws=>ws
def cF (f:aH) (id:Int):List ax→List bm→List bm
 | a :: as,i :: is=>(if fH a f=true then ⟨i.L++[id]⟩ else i) :: cF f id as is
 | _,is=>is
def zg (d:bo) (n:bO) (m:aI) (s:ag) (id:Int):aI:=
 ⟨cF (aK s.Items id).1 id n.Alphas m.Alphas,o4 (oL s.Items (cF (aK s.Items id).1 id n.Alphas m.Alphas) (aK s.Items id).1 id) d.Rules n.Chains m.Rules⟩
theorem rb (xs:List aw) (ps ns:List au) (row:List Int):∀ (ids:List Int),(fM xs ps ns row ids).length≤ids.length
 | []=>by simp[fM]
 | v :: ids=>by
  have h1:=rb xs ps ns row ids
  unfold fM at h1 ⊢
  rw[jf,hd,gx]
  have a:(nh xs ps ns row v).length≤1:=by unfold nh;split <;> simp
  omega
theorem rT (xs:List aw) (ps ns:List au) (ids:List Int):∀ (B:List ah),(B.flatMap fun t=>fM xs ps ns t.Ids ids).length≤B.length*ids.length
 | []=>by simp
 | t :: B=>by
  have h1:=rT xs ps ns ids B
  have a:=rb xs ps ns t.Ids ids
  rw[jf,hd,gx,hI];omega
theorem vw {xs:List aw} {ps ns:List au} {row ids:List Int}:∀ t∈fM xs ps ns row ids,t.Ids.length=row.length+1∧t.Hits.length≤ns.length:=by
 intro t a
 unfold fM at a
 obtain⟨v,_,h⟩:=j5.1 a
 unfold nh at h
 split at h
 ·simp only[hZ] at h
  subst h
  refine⟨MC,?_⟩
  simp only
  split
  ·simp[gD]
  ·simp
 ·cases h
theorem vV (f:aH) (l:List aq) (b:Int):∀ (ns:List au) (h:List Int),(lI f l b ns h).length=h.length
 | p :: ns,x :: h=>by simp[lI,vV f l b ns h]
 | [],h=>by simp[lI]
 | p :: ns,[]=>by simp[lI]
theorem vF {xs:List aw} {ps ns:List au} {f:aH} {b:Int} (a:List ah):(jV xs ps ns f b a).map (·.Ids)=a.map (·.Ids):=by
 unfold jV
 rw[List.map_map]
 apply List.map_congr_left
 intro t _
 simp only[Function.comp]
 split <;> rfl
theorem vK {xs:List aw} {ps ns:List au} {f:aH} {b:Int} (a:List ah):(jV xs ps ns f b a).length=a.length:=by simp[jV]
theorem sg (xs:List aw) (ps:List au) (ids:List Int):(okB xs ps ids).1.length≤dT ps:=by
 have h1:=yi (xs:=xs) (ps.take ids.length) ids []
 have a:dT (ps.take ids.length)≤dT ps:=rP _ _
 unfold okB
 simp at h1
 omega
theorem y6 {N:Nat} (b:1099000000000≤N) (s:ag) (v:Int) (k:s.Items.length≤1048576) (c:∀ x∈s.Items,x.F.Fields.length≤1048576):l7 N s v=some (aK s.Items v):=by
 unfold l7
 refine lp0 b s.Items MB (fY N s v) (fun t=>some (aK t v)) (fun n i x t h1 a l d f g j=>?_) (fun n i h1 a=>?_)
 ·have e:jS N x.F=some x.F:=by
   unfold jS
   rw[dY (show x.F.Fields.length≤4294967296 by have:=c x a;omega)];rfl
  simp only[fY,f,if_true,d,gf,g,j,e,wu]
  by_cases h:x.Id=v <;> simp[h]
 ·simp only[fY,a,gh,if_false];rfl
structure SzS (r:ai) (s:ag):Prop where
 pl:r.Pats.length≤1048576
 sa:dT r.Pats≤1048576
 pa:∀ p∈r.Pats,p.Args.length≤1048576
 sl:s.Items.length≤1048576
 fl:∀ x∈s.Items,x.F.Fields.length≤1048576
 fp:pos r.Pats=r.Pats.take (af r.Pats)
theorem AP {N:Nat} (c:1099000000000≤N) (r:ai) (s:ag) (a:SzS r s) (ids:List Int) (o:ids.length≤af r.Pats) :
  ∃ l,j8 N r s ids=some (l,(okB s.Items (pos r.Pats) ids).2)∧((okB s.Items (pos r.Pats) ids).2=true→l=(okB s.Items (pos r.Pats) ids).1)∧l.length≤1048576:=by
 have p:=dp r.Pats
 have t:=a.pl
 unfold j8
 have lp:∀ (n i:Nat) (l:List aq),i≤ids.length→ids.length - i < n→l.length+dT (r.Pats.drop i)≤1048576 →
   ∃ q,eB N r s ids n l i=some (q,(df s.Items ((r.Pats.take ids.length).drop i) (ids.drop i) l).2)∧((df s.Items ((r.Pats.take ids.length).drop i) (ids.drop i) l).2=true→q=(df s.Items ((r.Pats.take ids.length).drop i) (ids.drop i) l).1)∧q.length≤1048576:=by
  intro n
  induction n with
  | zero=>intro i _ _ h;omega
  | succ n j=>
   intro i l h1 u d
   by_cases f:i < ids.length
   ·have c1:decide ((i:Int) < (ids.length:Int))=true:=decide_eq_true MB
    have b:i < r.Pats.length:=by omega
    have k:i < (r.Pats.take ids.length).length:=by rw[n0];omega
    rw[ho b] at d
    rw[eR] at d
    have v:=ml r.Pats[i] (aK s.Items ids[i]).1 l
    rw[ho f,ho k,df,List.getElem_take]
    simp only[eB,c1,if_true,an f,gf,y6 c s _ a.sl a.fl,kP,an b]
    rw[show (⟨(aK s.Items ids[i]).1.Kind,(aK s.Items ids[i]).1.Fields⟩:aH)=(aK s.Items ids[i]).1 from rfl,wT c r.Pats[i] _ l (a.pa _ (hz b)) (show l.length≤2147483648 by omega)]
    simp only[gf,wr1 i MB]
    cases (aK s.Items ids[i]).2 with
    | false=>exact⟨l,MC,MC,MB⟩
    | true=>
     cases hm:(bv r.Pats[i] (aK s.Items ids[i]).1 l).2 with
     | false=>exact⟨l,MC,MC,MB⟩
     | true=>
      simp only[hA,gh,if_false,and_self,if_true,gf]
      exact j (i+1) _ MB MB MB
   ·have c1:decide ((i:Int) < (ids.length:Int))=false:=decide_eq_false MB
    simp only[eB,c1,gh,if_false]
    rw[hy (show (r.Pats.take ids.length).length≤i by rw[n0];omega),hy (show ids.length≤i by omega)]
    exact⟨l,by simp[df],by simp[df],MB⟩
 obtain⟨q,h1,g,m⟩:=lp N 0 [] MB MB (by simpa using a.sa)
 have e:(pos r.Pats).take ids.length=r.Pats.take ids.length:=by rw[a.fp,List.take_take];congr 1;omega
 unfold okB
 rw[e]
 simp only[hE] at h1 g
 exact⟨q,h1,g,m⟩
def pu (ns:List au) (f:aH) (l:List aq):List Int:=ns.map fun p=>if (bv p f l).2=true then 1 else 0
theorem Jg {N:Nat} (b:1099000000000≤N) (r:ai) (f:aH) (l:List aq) (hp:r.Pats.length≤1048576) (pa:∀ p∈r.Pats,p.Args.length≤1048576) (e:l.length≤1048576):mH N r f l=some (pu (neg r.Pats) f l):=by
 unfold mH
 refine (lp' b r.Pats MB (fun n (u:List Int) i=>dB N r f l n u i) (fun t u=>some (u++pu (neg t) f l)) (fun u t=>u.length+t.length≤1048576) [] (by simpa using hp) (fun n u i p t g1 g2 g3 g4 g5 g6 c a=>?_) (fun n u i g1 g2 c=>?_)).trans MC
 ·simp only[gx] at c
  have d:neg (p :: t)=if p.Not then p :: neg t else neg t:=by unfold neg;rw[k0]
  simp only[dB,g5,if_true,g4,gf,wT b p f l (pa p g2) (show l.length≤2147483648 by omega)]
  rw[d]
  cases g:p.Not with
  | false=>simp only[gh,if_false,g6];exact a u MB
  | true=>
   simp only[if_true]
   cases hm:(bv p f l).2 with
   | true=>
    simp only[if_true,i9,bD (show u.length+[(1:Int)].length≤4294967296 by simp;omega),gf,g6]
    rw[a _ (by simp;omega)];simp[pu,hm]
   | false=>
    simp only[gh,if_false,i9,bD (show u.length+[(0:Int)].length≤4294967296 by simp;omega),gf,g6]
    rw[a _ (by simp;omega)];simp[pu,hm]
 ·simp only[dB,g2,gh,if_false];simp[neg,pu]
def kx (xs:List aw) (ps:List au) (row:List Int) (id:Int):List ah:=if (okB xs ps (row++[id])).2=true then [⟨row++[id],[]⟩] else []
theorem Cv {N:Nat} (b:1099000000000≤N) (r:ai) (s:ag) (a:SzS r s) (out:List ah) (row:List Int) (id:Int) (d:row.length+1≤af r.Pats) (c:out.length+1≤4294967296) :
  jO N out r s row id=some (out++kx s.Items (pos r.Pats) row id):=by
 have e:=dp r.Pats
 have f:=a.pl
 obtain⟨l,h1,g,h⟩:=AP b r s a (row++[id]) (by simp;omega)
 unfold jO kx
 simp only[dY (show row.length≤4294967296 by omega),gf,bD (show row.length+[id].length≤4294967296 by simp;omega),h1]
 cases (okB s.Items (pos r.Pats) (row++[id])).2 with
 | false=>simp
 | true=>simp[bD (show out.length+[(⟨row++[id],[]⟩:ah)].length≤4294967296 by simpa using c)]
def EJ:List Int→List Int→List Int
 | x :: a,y :: b=>(x+y) :: EJ a b
 | a,_=>a
theorem EF (ns:List au) (l:List aq) (xs:List aw) (x:aw):EJ (gD xs ns l) (pu ns x.F l)=gD (xs++[x]) ns l:=by
 induction ns with
 | nil=>rfl
 | cons p ns a=>
  unfold gD pu at a ⊢
  simp only[hS,EJ,a]
  congr 1
  unfold yB
  rw[List.countP_append]
  cases hm:(bv p x.F l).2 with
  | true=>simp[hm]
  | false=>simp[hm]
theorem Ab {N:Nat} (s2:Int) (K:List Int→Int→Option ah) (e:List Int) (k:e.length≤1048576) (j:∀ y∈e,0≤y∧y≤1):∀ (b:List Int) (n:Nat) (c d a:List Int),b.length < n→e=c++b→d.length=c.length→a.length=b.length→(∀ x∈a,0≤x∧x≤1048576) →
  eD N s2 K e n (d++a) (c.length:Int)=K (d++EJ a b) (IntKind.i64.wrap (s2+1))
 | [],n,c,d,a,h,h1,f,g,i=>by
  obtain⟨n,rfl⟩:∃ m,n=m+1:=⟨n - 1,by simp at h;omega⟩
  have c1:decide ((c.length:Int) < (e.length:Int))=false:=decide_eq_false (by rw[h1];simp)
  have:a=[]:=rv.1 (by simpa using g)
  subst this
  simp only[eD,c1,gh,if_false,EJ]
 | y :: b,n,c,d,[],h,h1,f,g,i=>by simp at g
 | y :: b,n,c,d,x :: a,h,h1,f,g,i=>by
  obtain⟨n,rfl⟩:∃ m,n=m+1:=⟨n - 1,MB⟩
  simp only[gx] at h g
  have s:e.length=c.length+(b.length+1):=by rw[h1];simp
  have c1:decide ((c.length:Int) < (e.length:Int))=true:=decide_eq_true MB
  have l:idx e (c.length:Int)=some y:=by rw[h1,kT];simp
  have o:idx (d++x :: a) (c.length:Int)=some x:=by rw[← f,kT];simp
  have t:=i x MC
  have u:=j y (by rw[h1];simp)
  have p:IntKind.i64.wrap (x+y)=x+y:=wr MB MB
  have q:(d++x :: a).set ((c.length:Int)).toNat (x+y)=(d++[x+y])++a:=by
   rw[hX,← f,vx _ _ (hN _),K4,K5,gk];rfl
  simp only[eD,c1,if_true,l,o,gf,p,q,wr1 c.length MB]
  have:=Ab (N:=N) s2 K e k j b n (c++[y]) (d++[x+y]) a MB (by rw[h1];simp) (by simp[f]) MB (fun z r=>i z (by simp[r]))
  simp only[hd,gx,ha,ht] at this
  rw[this,EJ]
  simp
theorem GU {N:Nat} (d:1099000000000≤N) (r:ai) (s:ag) (a:SzS r s) (t:ah) (j:t.Ids.length≤af r.Pats) (k:(okB s.Items (pos r.Pats) t.Ids).2=true) :
  lP N r s t=some ⟨t.Ids,gD s.Items (neg r.Pats) (okB s.Items (pos r.Pats) t.Ids).1⟩:=by
 have B:=dp r.Pats
 have C:=a.pl
 have D:=a.sl
 obtain⟨l,h1,f,o⟩:=AP d r s a t.Ids j
 obtain rfl:=f k
 have E:=yo r.Pats
 have F:=pE r.Pats
 have q:(neg r.Pats).length=r.Pats.length - af r.Pats:=by unfold neg;omega
 have u:IntKind.i64.wrap ((r.Pats.length:Int) - (af r.Pats:Int))=((r.Pats.length - af r.Pats:Nat):Int):=by
  rw[show ((r.Pats.length:Int) - (af r.Pats:Int))=((r.Pats.length - af r.Pats:Nat):Int) by omega]
  exact wr MB MB
 unfold lP
 rw[h1,gf,vk d r a.pl,gf,u,Cj _ MB,gf]
 have v:List.replicate (r.Pats.length - af r.Pats) (0:Int)=gD [] (neg r.Pats) (okB s.Items (pos r.Pats) t.Ids).1:=by
  rw[← q]
  unfold gD yB
  apply List.ext_getElem
  ·simp
  ·intro i h1 f;simp
 rw[v]
 have lp:∀ (b:List aw) (n:Nat) (dz:List aw),b.length < n→s.Items=dz++b →
   d6 N r s t ((okB s.Items (pos r.Pats) t.Ids).1,(okB s.Items (pos r.Pats) t.Ids).2) n (gD dz (neg r.Pats) (okB s.Items (pos r.Pats) t.Ids).1) (dz.length:Int)=some ⟨t.Ids,gD s.Items (neg r.Pats) (okB s.Items (pos r.Pats) t.Ids).1⟩:=by
  intro b
  induction b with
  | nil=>
   intro n dz e he
   obtain⟨n,rfl⟩:∃ m,n=m+1:=⟨n - 1,by simp at e;omega⟩
   have g:s.Items=dz:=by simpa using he
   have c1:decide ((dz.length:Int) < (s.Items.length:Int))=false:=decide_eq_false (by rw[g];simp)
   simp only[d6,c1,gh,if_false]
   rw[← g]
  | cons z b w=>
   intro n dz e he
   obtain⟨n,rfl⟩:∃ m,n=m+1:=⟨n - 1,MB⟩
   simp only[gx] at e
   have G:s.Items.length=dz.length+(b.length+1):=by rw[he];simp
   have c1:decide ((dz.length:Int) < (s.Items.length:Int))=true:=decide_eq_true MB
   have x:idx s.Items (dz.length:Int)=some z:=by rw[he,kT];simp
   simp only[d6,c1,if_true,x,gf,Jg d r z.F _ a.pl a.pa o]
   have h:=Ab (N:=N) (dz.length:Int) (d6 N r s t ((okB s.Items (pos r.Pats) t.Ids).1,(okB s.Items (pos r.Pats) t.Ids).2) n) (pu (neg r.Pats) z.F (okB s.Items (pos r.Pats) t.Ids).1) (by simp[pu];omega)
    (fun y c=>by unfold pu at c;obtain⟨p,_,rfl⟩:=hQ.1 c;split <;> omega) (pu (neg r.Pats) z.F (okB s.Items (pos r.Pats) t.Ids).1) N [] [] (gD dz (neg r.Pats) (okB s.Items (pos r.Pats) t.Ids).1) (by simp[pu];omega) rfl rfl (by simp[pu,gD])
    (fun y c=>by unfold gD at c;obtain⟨p,_,rfl⟩:=hQ.1 c;have:=Af p (okB s.Items (pos r.Pats) t.Ids).1 dz;omega)
   simp only[hB,ha,nn] at h
   have A:eD N (dz.length:Int) (d6 N r s t ((okB s.Items (pos r.Pats) t.Ids).1,(okB s.Items (pos r.Pats) t.Ids).2) n) (pu (neg r.Pats) z.F (okB s.Items (pos r.Pats) t.Ids).1) N (gD dz (neg r.Pats) (okB s.Items (pos r.Pats) t.Ids).1) 0=_:=h
   rw[A,EF,wr1 dz.length MB]
   have:=w n (dz++[z]) MB (by rw[he];simp)
   simp only[hd,gx,ha,ht] at this
   exact this
 have:=lp s.Items N [] MB rfl
 simpa using this
theorem JO {N:Nat} (c:1099000000000≤N) (p:List aq) (n:ByteArray) (d:p.length≤4294967296):pL N p n=some (uX p n):=by
 unfold pL
 have:∀ (k i:Nat),i≤p.length→p.length - i < k→ik N p n k i=some (uX (p.drop i) n):=by
  intro k
  induction k with
  | zero=>intro i _ h;omega
  | succ k b=>
   intro i e hk
   simp only[ik]
   by_cases a:i < p.length
   ·have c1:decide ((i:Int) < (p.length:Int))=true:=decide_eq_true MB
    rw[ho a,zH]
    simp only[c1,if_true,an a,gf,wr1 i MB,b (i+1) MB MB]
    cases seq p[i].Name n <;> rfl
   ·have c1:decide ((i:Int) < (p.length:Int))=false:=decide_eq_false MB
    simp only[c1,gh,if_false]
    rw[hy MB];rfl
 exact this N 0 MB MB
theorem BU {N:Nat} (k:1099000000000≤N) (p:au) (f:aH) (b:List aq) (he:p.Args.length=f.Fields.length) (m:p.Args.length≤1048576) (o:b.length≤2147483648):∀ (n i:Nat) (s:List aq),i≤p.Args.length→p.Args.length - i < n→s.length≤2147483648+i →
  dF N p f b n s i=some (dP b (p.Args.drop i) (f.Fields.drop i) s):=by
 intro n
 induction n with
 | zero=>intro i s _ h;omega
 | succ n d=>
  intro i s q r t
  simp only[dF]
  by_cases e:i < p.Args.length
  ·have c1:decide ((i:Int) < (p.Args.length:Int))=true:=decide_eq_true MB
   have g:i < f.Fields.length:=by omega
   rw[ho e,ho g,dP]
   simp only[c1,if_true,an e,an g,gf,JO k s _ (show s.length≤4294967296 by omega),bL,dY (show b.length≤4294967296 by omega),bD (show s.length+[(⟨p.Args[i].S,f.Fields[i]⟩:aq)].length≤4294967296 by simp;omega),wr1 i MB,nK,orS]
   have c:=d (i+1) s MB MB MB
   have l:=d (i+1) (s++[⟨p.Args[i].S,f.Fields[i]⟩]) MB MB (by simp;omega)
   by_cases j:p.Args[i].K=2
   ·have a : ¬ p.Args[i].K=1:=by omega
    simp only[j,a,decide_true,decide_false,if_true,if_false,hK,p5,r0,gh,gf,show ¬ (2:Int)=1 by omega]
    cases bq p.Args[i].V f.Fields[i] with
    | true=>simpa using c
    | false=>simp
   ·by_cases a:p.Args[i].K=1
    ·simp only[a,decide_true,decide_false,if_true,if_false,hK,p5,qa,gh,gf,show ¬ (1:Int)=2 by omega]
     cases (uX s p.Args[i].S).2 with
     | true=>
      simp only[if_true,hA,hK,gh,if_false]
      cases bq (uX s p.Args[i].S).1 f.Fields[i] with
      | true=>simpa using c
      | false=>simp
     | false=>simpa using l
    ·simp only[a,j,decide_false,if_false,p5,qa,r0,gh,gf]
     simpa using c
  ·have c1:decide ((i:Int) < (p.Args.length:Int))=false:=decide_eq_false MB
   simp only[c1,gh,if_false]
   rw[hy MB]
   rfl
theorem ET (a b:ByteArray):seq a b=seq b a:=by rw[kA,kA];simp[eq_comm]
theorem AQ {N:Nat} (c:1099000000000≤N) (p:au) (f:aH) (b:List aq) (d:p.Args.length≤1048576) (e:b.length≤2147483648):jb N p f b=some (bv p f b):=by
 unfold jb bv bL
 rw[dY MB,ET f.Kind p.Kind]
 simp only[gf,orS]
 cases hk:seq p.Kind f.Kind with
 | false=>simp
 | true=>
  by_cases he:p.Args.length=f.Fields.length
  ·have a:decide ((f.Fields.length:Int)=(p.Args.length:Int))=true:=decide_eq_true MB
   have:=(BU c p f b he d e N 0 b MB MB MB)
   simp only[a,he,hA,r0,gh,if_false,true_and,if_true]
   simpa using this
  ·have a:decide ((f.Fields.length:Int)=(p.Args.length:Int))=false:=decide_eq_false MB
   simp[a,he]
theorem yw {N:Nat} (b:1099000000000≤N) (s:ag) (v:Int) (k:s.Items.length≤1048576) (c:∀ x∈s.Items,x.F.Fields.length≤1048576):l9 N s v=some (aK s.Items v):=by
 unfold l9
 refine lp0 b s.Items MB (fW N s v) (fun t=>some (aK t v)) (fun n i x t h1 a l d f g j=>?_) (fun n i h1 a=>?_)
 ·have e:mb N x.F=some x.F:=by
   unfold mb fF
   rw[dY (show x.F.Fields.length≤4294967296 by have:=c x a;omega)];rfl
  simp only[fW,f,if_true,d,gf,g,j,e,wu]
  by_cases h:x.Id=v <;> simp[h]
 ·simp only[fW,a,gh,if_false];rfl
theorem BT {N:Nat} (b:1099000000000≤N) (ps:List au) (s:ag) (ids:List Int) (e:dT ps≤1048576) (hp:∀ p∈ps,p.Args.length≤1048576) (f:s.Items.length≤1048576) (g:∀ x∈s.Items,x.F.Fields.length≤1048576) (m:ids.length≤1048576) (he:ids.length≤ps.length) :
  lv N ps s ids=some (df s.Items (ps.take ids.length) ids []):=by
 unfold lv
 have lp:∀ (n i:Nat) (l:List aq),i≤ids.length→ids.length - i < n→l.length+dT (ps.drop i)≤1048576→gB N ps s ids n l i=some (df s.Items ((ps.take ids.length).drop i) (ids.drop i) l):=by
  intro n
  induction n with
  | zero=>intro i _ _ h;omega
  | succ n j=>
   intro i l h1 o c
   by_cases d:i < ids.length
   ·have c1:decide ((i:Int) < (ids.length:Int))=true:=decide_eq_true MB
    have a:i < ps.length:=by omega
    have k:i < (ps.take ids.length).length:=by rw[n0];omega
    rw[ho a] at c
    rw[eR] at c
    have q:=ml ps[i] (aK s.Items ids[i]).1 l
    rw[ho d,ho k,df,List.getElem_take]
    simp only[gB,c1,if_true,an d,an a,gf,yw b s _ f g,AQ b ps[i] _ l (hp _ (hz a)) (show l.length≤2147483648 by omega),wr1 i MB]
    cases (aK s.Items ids[i]).2 with
    | false=>simp
    | true=>
     cases (bv ps[i] (aK s.Items ids[i]).1 l).2 with
     | false=>simp
     | true=>
      simp only[hA,gh,if_false,and_self,if_true]
      exact j (i+1) _ MB MB MB
   ·have c1:decide ((i:Int) < (ids.length:Int))=false:=decide_eq_false MB
    simp only[gB,c1,gh,if_false]
    rw[hy (show (ps.take ids.length).length≤i by rw[n0];omega),hy (show ids.length≤i by omega)];rfl
 have:=lp N 0 [] MB MB (by simpa using e)
 simpa using this
theorem K7 {N:Nat} (b:1099000000000≤N) (p:au) (s:ag) (l:List aq) (hp:p.Args.length≤1048576) (j:s.Items.length≤1048576) (e:l.length≤2147483648):p8 N p s l=some (yB p l s.Items:Int):=by
 unfold p8
 have:=lp' b s.Items MB (eV N p s l) (fun t k=>some (k+(yB p l t:Int))) (fun k t=>0≤k∧k+t.length≤1048576) (0:Int) (by simp;omega) (fun n k i x t h1 c m f g h d a=>by
  simp only[gx] at d
  simp only[eV,g,if_true,f,gf,AQ b p x.F l hp e,h]
  unfold yB at a ⊢
  rw[List.countP_cons]
  cases (bv p x.F l).2 with
  | true=>
   rw[wr (n:=k+1) MB MB]
   simp only[if_true,a (k+1) MB];congr 1;omega
  | false=>simpa using a k MB) (fun n k i h1 c d=>by simp only[eV,c,gh,if_false,yB];simp)
 simpa using this
structure SzG (g:cQ):Prop where
 pl:g.pos.length≤1048576
 sa:dT g.pos≤1048576
 pa:∀ p∈g.pos,p.Args.length≤1048576
 nl:g.neg.length≤1048576
 na:∀ p∈g.neg,p.Args.length≤1048576
 sl:g.s.Items.length≤1048576
 fl:∀ x∈g.s.Items,x.F.Fields.length≤1048576
theorem EP {N:Nat} (d:1099000000000≤N) (g:cQ) (b:SzG g) (s1:List ah) (s2:Int) (K:List ah→Int→Option (List ah)) (c:List Int) (a:List aq × Bool) (f:a.1.length≤2147483648) :
  ct N g s1 s2 K c a N [] 0=cu N s1 s2 K c (gD g.s.Items g.neg a.1):=by
 have j:=b.nl
 refine (lp' d g.neg MB (fun n (u:List Int) i=>ct N g s1 s2 K c a n u i) (fun t u=>cu N s1 s2 K c (u++gD g.s.Items t a.1)) (fun u t=>u.length+t.length≤1048576) [] (by simpa using b.nl) (fun n u i p t g1 g2 g3 g4 g5 g6 e h=>?_) (fun n u i g1 g2 e=>?_)).trans MC
 ·simp only[gx] at e
  simp only[ct,g5,if_true,g4,gf,K7 d p g.s a.1 (b.na p g2) b.sl f,bD (show u.length+[((yB p a.1 g.s.Items:Nat):Int)].length≤4294967296 by simp;omega),g6]
  rw[h _ (by simp;omega)]
  simp[gD]
 ·simp only[ct,g2,gh,if_false];simp[gD]
theorem xf {N:Nat} (d:1099000000000≤N) (g:cQ) (a:SzG g) (row ids:List Int) (o:row.length+1≤g.pos.length) (h:ids.length≤4294967296) :
  dX N g row ids=some (fM g.s.Items g.pos g.neg row ids):=by
 have p:=a.pl
 unfold dX
 refine (lp' d ids h (fun n (u:List ah) i=>bE N g row ids n u i) (fun t u=>some (u++fM g.s.Items g.pos g.neg row t)) (fun u t=>u.length+t.length≤4294967296) [] (by simpa using h) (fun n u i v t g1 g2 g3 g4 g5 g6 j e=>?_) (fun n u i g1 g2 j=>?_)).trans MC
 ·simp only[gx] at j
  have k:(row++[v]).length=row.length+1:=by simp
  have q:=sg g.s.Items g.pos (row++[v])
  have r:=a.sa
  have m:df g.s.Items (g.pos.take (row++[v]).length) (row++[v]) []=okB g.s.Items g.pos (row++[v]):=rfl
  simp only[bE,g5,if_true,g4,gf,iy,dY (show row.length≤4294967296 by omega),bD (show row.length+[v].length≤4294967296 by simp;omega),
   BT d g.pos g.s (row++[v]) a.sa a.pa a.sl a.fl MB MB,m,fM,jf]
  have s:(t.flatMap fun b=>nh g.s.Items g.pos g.neg row b)=fM g.s.Items g.pos g.neg row t:=rfl
  cases f:(okB g.s.Items g.pos (row++[v])).2 with
  | false=>
   have c:nh g.s.Items g.pos g.neg row v=[]:=by unfold nh;rw[f];simp
   simp only[hG,if_true,g6,c,hB]
   exact e u MB
  | true=>
   simp only[hA,gh,if_false]
   by_cases l:row.length+1=g.pos.length
   ·have c1:decide (((row++[v]).length:Int)=(g.pos.length:Int))=true:=decide_eq_true (by rw[k];omega)
    have c:nh g.s.Items g.pos g.neg row v=[⟨row++[v],gD g.s.Items g.neg (okB g.s.Items g.pos (row++[v])).1⟩]:=by unfold nh;rw[f,if_pos rfl,if_pos l]
    simp only[c1,if_true,EP d g a u _ _ _ _ (show (okB g.s.Items g.pos (row++[v])).1.length≤2147483648 by omega),cu,bD (show u.length+[(⟨row++[v],gD g.s.Items g.neg (okB g.s.Items g.pos (row++[v])).1⟩:ah)].length≤4294967296 by simp;omega),gf,g6,c]
    rw[e _ (by simp;omega),gk];rfl
   ·have c1:decide (((row++[v]).length:Int)=(g.pos.length:Int))=false:=decide_eq_false (by rw[k];omega)
    have c:nh g.s.Items g.pos g.neg row v=[⟨row++[v],[]⟩]:=by unfold nh;rw[f,if_pos rfl,if_neg l]
    simp only[c1,gh,if_false,cu,bD (show u.length+[(⟨row++[v],[]⟩:ah)].length≤4294967296 by simp;omega),gf,g6,c]
    rw[e _ (by simp;omega),gk];rfl
 ·simp only[bE,g2,gh,if_false];simp[fM]
def uY (A:Nat→Nat):Nat→List Nat→Nat→Nat→Prop
 | _,[],_,_=>True
 | k,l :: ls,b,f=>(if k=0 then 1 else b+f*A k)+l≤4294967296∧uY A (k+1) ls l (if k=0 then 1 else b+f*A k)
theorem vX {A:Nat→Nat}:∀ {ls:List Nat} {k b f a c:Nat},uY A k ls b f→a≤b→c≤f→uY A k ls a c
 | [],_,_,_,_,_,_,_,_=>trivial
 | l :: ls,k,b,f,a,c,h,d,e=>by
  have hm:(if k=0 then 1 else a+c*A k)≤(if k=0 then 1 else b+f*A k):=by
   split
   ·exact hN _
   ·exact Nat.add_le_add d (Nat.mul_le_mul_right _ e)
  exact⟨Nat.le_trans (Nat.add_le_add_right hm l) h.1,vX h.2 (hN _) hm⟩
theorem vI (xs:List aw) (ps ns:List au) (id:Int) (k:Nat) (B F:List ah) (A:List Int):(iA xs ps ns id k B F A).length≤(if k=0 then 1 else B.length+F.length*A.length):=by
 unfold iA
 split
 ·exact rb xs ps ns [] [id]
 ·have h1:=rT xs ps ns [id] B
  have a:=rT xs ps ns A F
  simp only[hd,gx,ha,ht,Nat.mul_one] at h1 a ⊢
  omega
theorem zq {xs:List aw} {ps ns:List au} {id:Int} {k:Nat} {B F:List ah} {A:List Int} (b:∀ t∈B,t.Ids.length=k) (c:∀ t∈F,t.Ids.length=k):∀ t∈iA xs ps ns id k B F A,t.Ids.length=k+1:=by
 intro t a
 unfold iA at a
 split at a
 ·rename_i hk
  rw[(vw t a).1,hk];rfl
 ·rcases gb.1 a with h | h
  ·obtain⟨u,hu,h⟩:=j5.1 h
   rw[(vw t h).1,b u hu]
  ·obtain⟨u,hu,h⟩:=j5.1 h
   rw[(vw t h).1,c u hu]
theorem Il {N:Nat} (c:1099000000000≤N) (g:cQ) (e:SzG g) (s1:List ao) (F:List ah) (k:Nat) (K:List ao→List ah→List ah→Int→Option (List ao)) (a:Int) (A:bm) (f:idx g.chain.Pos (k:Int)=some a) (h:idx g.alphas a=some A) (hk:k+1≤g.pos.length)
  (j:∀ t∈F,t.Ids.length=k) (b:List ah) (l:b.length+F.length*A.L.length≤4294967296) (m:A.L.length≤4294967296) (o:F.length≤4294967296) :
  cT N g s1 F (k:Int) K N b 0=cm N s1 (k:Int) K (b++F.flatMap fun t=>fM g.s.Items g.pos g.neg t.Ids A.L):=by
 refine lp' c F o (fun n (u:List ah) i=>cT N g s1 F (k:Int) K n u i) (fun t u=>cm N s1 (k:Int) K (u++t.flatMap fun t=>fM g.s.Items g.pos g.neg t.Ids A.L)) (fun u t=>u.length+t.length*A.L.length≤4294967296) b l (fun n u i v t g1 g2 g3 g4 g5 g6 d p=>?_) (fun n u i g1 g2 d=>?_)
 ·rw[gx,hI] at d
  have h1:=rb g.s.Items g.pos g.neg v.Ids A.L
  simp only[cT,g5,if_true,g4,gf,f,h,xf c g e v.Ids A.L (by rw[j v g2];exact hk) m,bD (show u.length+(fM g.s.Items g.pos g.neg v.Ids A.L).length≤4294967296 by omega),g6]
  rw[p _ (by rw[hd];omega),jf,gk]
 ·simp only[cT,g2,gh,if_false];simp
theorem I4 {N:Nat} (c:1099000000000≤N) (g:cQ) (d:SzG g) (s1:List ao) (B F:List ah) (k:Nat) (K:List ao→List ah→List ah→Int→Option (List ao)) (a:Int) (A:bm) (e:idx g.chain.Pos (k:Int)=some a) (f:idx g.alphas a=some A) (hk:k+1≤g.pos.length)
  (h:∀ t∈B,t.Ids.length=k) (j:∀ t∈F,t.Ids.length=k) (l:B.length+F.length*A.L.length≤4294967296) (m:A.L.length≤4294967296) (o:F.length≤4294967296) :
  cS N g s1 B F (k:Int) K N [] 0=cm N s1 (k:Int) K ((B.flatMap fun t=>fM g.s.Items g.pos g.neg t.Ids [g.id])++F.flatMap fun t=>fM g.s.Items g.pos g.neg t.Ids A.L):=by
 refine (lp' c B MB (fun n (u:List ah) i=>cS N g s1 B F (k:Int) K n u i) (fun t u=>cm N s1 (k:Int) K (u++(t.flatMap fun t=>fM g.s.Items g.pos g.neg t.Ids [g.id])++F.flatMap fun t=>fM g.s.Items g.pos g.neg t.Ids A.L)) (fun u t=>u.length+t.length+F.length*A.L.length≤4294967296) [] (by simpa using l) (fun n u i v t g1 g2 g3 g4 g5 g6 b p=>?_) (fun n u i g1 g2 b=>?_)).trans MC
 ·rw[gx] at b
  have h1:=rb g.s.Items g.pos g.neg v.Ids [g.id]
  simp only[gx,ha,ht] at h1
  simp only[cS,g5,if_true,g4,gf,xf c g d v.Ids [g.id] (by rw[h v g2];exact hk) MC,bD (show u.length+(fM g.s.Items g.pos g.neg v.Ids [g.id]).length≤4294967296 by omega),g6]
  rw[p _ (by rw[hd];omega),jf]
  simp only[gk]
 ·simp only[cS,g2,gh,if_false]
  simp only[ha,q0] at b
  rw[Il c g d s1 F k K a A e f hk j u b m o];simp
theorem DZ {N:Nat} (e:1099000000000≤N) (g:cQ) (d:SzG g) (b:List ao) (A:Nat→List Int) (hp:b.length≤g.pos.length) (s:∀ k,k < b.length→∃ a i,idx g.chain.Pos (k:Int)=some a∧idx g.alphas a=some i∧i.L=A k) (u:∀ k,(A k).length≤4294967296) :
  ∀ (rest:List ao) (n:Nat) (done:List ao) (B F:List ah),rest.length < n→done.length+rest.length=b.length→(∀ t∈B,t.Ids.length=done.length)→(∀ t∈F,t.Ids.length=done.length)→(∀ i L,rest[i]?=some L→∀ t∈L.Toks,t.Ids.length=done.length+1+i) →
   F.length≤4294967296→uY (fun k=>(A k).length) done.length (rest.map (·.Toks.length)) B.length F.length→bK N g b n (done++rest) B F (done.length:Int)=some (done++lm g.s.Items g.pos g.neg g.id A done.length rest B F)
 | [],n,done,B,F,f,h,l,o,p,v,w=>by
  obtain⟨n,rfl⟩:∃ m,n=m+1:=⟨n - 1,by simp at f;omega⟩
  simp only[ha,q0] at h
  have c1:decide ((done.length:Int) < (b.length:Int))=false:=decide_eq_false MB
  simp only[bK,c1,gh,if_false,lm]
 | L :: Ls,n,done,B,F,f,h,l,o,p,v,w=>by
  obtain⟨n,rfl⟩:∃ m,n=m+1:=⟨n - 1,MB⟩
  simp only[gx] at f h
  obtain⟨x,y⟩:=w
  simp only at x y
  have O:=d.pl
  have c1:decide ((done.length:Int) < (b.length:Int))=true:=decide_eq_true MB
  obtain⟨a,i,z,C,q⟩:=s done.length MB
  have D:=vI g.s.Items g.pos g.neg g.id done.length B F (A done.length)
  have E:=zq (xs:=g.s.Items) (ps:=g.pos) (ns:=g.neg) (id:=g.id) (A:=A done.length) l o
  -- the end of a round
  have key:∀ M,M=iA g.s.Items g.pos g.neg g.id done.length B F (A done.length)→cm N (done++L :: Ls) (done.length:Int) (bK N g b n) M=some (done++lm g.s.Items g.pos g.neg g.id A done.length (L :: Ls) B F):=by
   intro M G
   subst G
   have H:idx (done++L :: Ls) (done.length:Int)=some L:=by rw[kT];simp
   have I:(done++L :: Ls).set ((done.length:Int)).toNat ⟨L.Toks++iA g.s.Items g.pos g.neg g.id done.length B F (A done.length)⟩=(done++[⟨L.Toks++iA g.s.Items g.pos g.neg g.id done.length B F (A done.length)⟩])++Ls:=by
    rw[hX,vx _ _ (hN _),K4,K5,gk];rfl
   simp only[cm,H,gf,dZ,dY (show L.Toks.length≤4294967296 by omega),bD (show L.Toks.length+(iA g.s.Items g.pos g.neg g.id done.length B F (A done.length)).length≤4294967296 by omega),I,wr1 done.length MB]
   have:=DZ e g d b A hp s u Ls n (done++[⟨L.Toks++iA g.s.Items g.pos g.neg g.id done.length B F (A done.length)⟩]) L.Toks (iA g.s.Items g.pos g.neg g.id done.length B F (A done.length)) MB (by simp;omega)
    (fun t c=>by have:=p 0 L rfl t c;simpa using this) (fun t c=>by simpa using E t c) (fun j M K t c=>by have:=p (j+1) M (by simpa using K) t c;simp only[hd,gx,ha];omega) MB
    (by simp only[hd,gx,ha];exact vX y (hN _) D)
   simp only[hd,gx,ha,ht] at this
   rw[this,gk];rfl
  simp only[bK,c1,if_true]
  by_cases r:done.length=0
  ·have c2:decide ((done.length:Int)=0)=true:=decide_eq_true MB
   simp only[c2,if_true,xf e g d [] [g.id] (by simp;omega) MC,gf]
   exact key _ (by unfold iA;rw[if_pos r])
  ·have c2:decide ((done.length:Int)=0)=false:=decide_eq_false MB
   rw[if_neg r] at x
   simp only[c2,gh,if_false]
   rw[I4 e g d _ B F done.length _ a i z C MB l o (by rw[q];omega) (by rw[q];exact u _) v,q]
   exact key _ (by unfold iA;rw[if_neg r])
theorem JN {N:Nat} (c:1099000000000≤N) (g:cQ) (b:SzG g) (ls:List ao) (A:Nat→List Int) (hp:ls.length≤g.pos.length) (d:∀ k,k < ls.length→∃ a i,idx g.chain.Pos (k:Int)=some a∧idx g.alphas a=some i∧i.L=A k) (e:∀ k,(A k).length≤4294967296)
  (f:∀ i L,ls[i]?=some L→∀ t∈L.Toks,t.Ids.length=i+1) (j:uY (fun k=>(A k).length) 0 (ls.map (·.Toks.length)) 0 0):gN N g ls=some (lm g.s.Items g.pos g.neg g.id A 0 ls [] []):=by
 have m:=b.pl
 have:=DZ c g b ls A hp d e ls N [] [] [] MB MC MC MC (fun i L h t l=>by rw[f i L h t l];simp;omega) MC (by simpa using j)
 unfold gN
 simpa using this
theorem C4 {N:Nat} (d:1099000000000≤N) (r:ai) (b:Bool) (e:r.Pats.length≤1048576):rj N r b=some (r.Pats.filter fun p=>p.Not == b):=by
 unfold rj
 refine (lp' d r.Pats MB (iQ N r b) (fun t u=>some (u++t.filter fun p=>p.Not == b)) (fun u t=>u.length+t.length≤1048576) [] (by simpa using e) (fun n u i p t g1 g2 g3 g4 g5 g6 a c=>?_) (fun n u i g1 g2 a=>?_)).trans MC
 ·simp only[gx] at a
  simp only[iQ,g5,if_true,g4,gf,k0,g6]
  cases f:(p.Not == b) with
  | true=>
   simp only[if_true,bD (show u.length+[p].length≤4294967296 by simp;omega),gf]
   rw[c _ (by simp;omega)];simp
  | false=>
   simp only[gh,if_false]
   exact c u MB
 ·simp only[iQ,g2,gh,if_false];simp
theorem kt {α:Type} (d:List α) (x y:α) (t:List α):(d++x :: t).set d.length y=(d++[y])++t:=by
 rw[vx _ _ (hN _),K4,K5,gk];rfl
theorem dI {α:Type} (d:List α) (x:α) (t:List α):idx (d++x :: t) (d.length:Int)=some x:=by rw[kT];simp
theorem BN {N:Nat} (r:1099000000000≤N) (g:cQ) (l:SzG g) (d:Int) (i:aH × Bool) (s1:List ah) (s2:Int) (K:List ah→Int→Option (List ah)) (o:ah) (e:List aq × Bool) (s:e.1.length≤2147483648) :
  ∀ (ns:List au) (n:Nat) (a:List au) (b h:List Int),ns.length < n→g.neg=a++ns→b.length=a.length→h.length=ns.length →
   co N g d i s1 s2 K o e n (b++h) (a.length:Int)=K (s1.set s2.toNat ⟨o.Ids,b++lI i.1 e.1 d ns h⟩) (IntKind.i64.wrap (s2+1))
 | [],n,a,b,h,j,c,f,k=>by
  obtain⟨n,rfl⟩:∃ m,n=m+1:=⟨n - 1,by simp at j;omega⟩
  have c1:decide ((a.length:Int) < (g.neg.length:Int))=false:=decide_eq_false (by rw[c];simp)
  simp only[co,c1,gh,if_false,lI]
 | p :: ns,n,a,b,[],j,c,f,k=>by simp at k
 | p :: ns,n,a,b,x :: h,j,c,f,k=>by
  obtain⟨n,rfl⟩:∃ m,n=m+1:=⟨n - 1,MB⟩
  simp only[gx] at j k
  have w:=l.nl
  have y:g.neg.length=a.length+(ns.length+1):=by rw[c];simp
  have c1:decide ((a.length:Int) < (g.neg.length:Int))=true:=decide_eq_true MB
  have t:idx g.neg (a.length:Int)=some p:=by rw[c];exact dI _ _ _
  have u:idx (b++x :: h) (a.length:Int)=some x:=by rw[← f];exact dI _ _ _
  have hp:p∈g.neg:=by rw[c];simp
  simp only[co,c1,if_true,t,gf,AQ r p i.1 e.1 (l.na p hp) s,wr1 a.length MB,lI]
  have q:=BN r g l d i s1 s2 K o e s ns n (a++[p])
  simp only[hd,gx,ha,ht] at q
  cases hm:(bv p i.1 e.1).2 with
  | true=>
   simp only[if_true,u,gf]
   have v:(b++x :: h).set ((a.length:Int)).toNat (IntKind.i64.wrap (x+d))=(b++[IntKind.i64.wrap (x+d)])++h:=by rw[hX,← f];exact kt _ _ _ _
   rw[v,q (b++[IntKind.i64.wrap (x+d)]) h MB (by rw[c];simp) (by simp[f]) MB]
   simp
  | false=>
   simp only[gh,if_false]
   have:=q (b++[x]) h MB (by rw[c];simp) (by simp[f]) MB
   simp only[gk,hW,hB] at this
   exact this
theorem Bl {N:Nat} (h:1099000000000≤N) (g:cQ) (e:SzG g) (f:List ah) (b:Int) (c:aH × Bool) (p:f.length≤4294967296):∀ (a:List ah) (n:Nat) (d:List ah),a.length < n→d.length+a.length=f.length→(∀ t∈a,t.Ids.length≤g.pos.length∧t.Hits.length=g.neg.length) →
  bM N g f b c n (d++a) (d.length:Int)=some (d++jV g.s.Items g.pos g.neg c.1 b a)
 | [],n,d,i,j,k=>by
  obtain⟨n,rfl⟩:∃ m,n=m+1:=⟨n - 1,by simp at i;omega⟩
  simp only[ha,q0] at j
  have c1:decide ((d.length:Int) < (f.length:Int))=false:=decide_eq_false MB
  simp only[bM,c1,gh,if_false,jV,q2]
 | t :: a,n,d,i,j,k=>by
  obtain⟨n,rfl⟩:∃ m,n=m+1:=⟨n - 1,MB⟩
  simp only[gx] at i j
  have w:=e.pl
  have x:=e.sa
  have c1:decide ((d.length:Int) < (f.length:Int))=true:=decide_eq_true MB
  obtain⟨h1,q⟩:=k t MC
  have z:=sg g.s.Items g.pos t.Ids
  have r:df g.s.Items (g.pos.take t.Ids.length) t.Ids []=okB g.s.Items g.pos t.Ids:=rfl
  have l:=fun y=>Bl h g e f b c p a n (d++[y]) MB (by simp;omega) (fun u hu=>k u (by simp[hu]))
  simp only[hd,gx,ha,ht] at l
  simp only[bM,c1,if_true,dI,gf,BT h g.pos g.s t.Ids e.sa e.pa e.sl e.fl MB h1,r,wr1 d.length MB]
  have s:jV g.s.Items g.pos g.neg c.1 b (t :: a)=(if (okB g.s.Items g.pos t.Ids).2=true then ⟨t.Ids,lI c.1 (okB g.s.Items g.pos t.Ids).1 b g.neg t.Hits⟩ else t) :: jV g.s.Items g.pos g.neg c.1 b a:=rfl
  rw[s]
  cases A:(okB g.s.Items g.pos t.Ids).2 with
  | false=>
   simp only[hG,if_true,gh,if_false]
   have:=l t
   simp only[gk,hW,hB] at this
   exact this
  | true=>
   simp only[hA,gh,if_false,if_true]
   have o:=BN h g e b c (d++t :: a) (d.length:Int) (bM N g f b c n) t (okB g.s.Items g.pos t.Ids) MB g.neg N [] [] t.Hits (by have:=e.nl;omega) rfl rfl q
   simp only[hB,ha,nn,hX] at o
   have v:co N g b c (d++t :: a) (d.length:Int) (bM N g f b c n) t (okB g.s.Items g.pos t.Ids) N t.Hits 0=_:=o
   rw[v,kt,wr1 d.length MB,l,gk];rfl
theorem Hu {N:Nat} (d:1099000000000≤N) (g:cQ) (b:SzG g) (a:List ah) (c:Int) (e:a.length≤4294967296) (f:∀ t∈a,t.Ids.length≤g.pos.length∧t.Hits.length=g.neg.length) :
  gv N g a c=some (jV g.s.Items g.pos g.neg (aK g.s.Items g.id).1 c a):=by
 unfold gv
 rw[yw d g.s g.id b.sl b.fl,gf]
 have:=Bl d g b a c (aK g.s.Items g.id) e a N [] MB MC f
 simpa using this
structure Ce (as:List bm) (r:ai) (c:aR) (row:aP):Prop where
 ne:1≤row.Levels.length
 ll:row.Levels.length=(pos r.Pats).length
 ids:∀ i L,row.Levels[i]?=some L→∀ t∈L.Toks,t.Ids.length=i+1
 hit:∀ L,row.Levels[row.Levels.length - 1]?=some L→∀ t∈L.Toks,t.Hits.length=(neg r.Pats).length
 at_:∀ k,k < row.Levels.length→∃ a i,idx c.Pos (k:Int)=some a∧idx as a=some i
 fit:uY (fun k=>(ue as c k).length) 0 (row.Levels.map (·.Toks.length)) 0 0
 al:∀ k,(ue as c k).length≤4294967296
theorem wN {A:Nat→Nat}:∀ {ls:List Nat} {k b f:Nat},uY A k ls b f→∀ l∈ls,l≤4294967296
 | [],_,_,_,_,_,h=>by cases h
 | l :: ls,k,b,f,h,x,a=>by
  rcases hC.1 a with rfl | a
  ·have:=h.1;omega
  ·exact wN h.2 x a
theorem C7 {row:aP} {L:ao} {M:List ah} {i:Nat} (a:row.Levels[i]?=some L) (b:M.length=L.Toks.length):(row.Levels.set i ⟨M⟩).map (·.Toks.length)=row.Levels.map (·.Toks.length):=by
 rw[List.map_set]
 have:(row.Levels.map (·.Toks.length))[i]?=some L.Toks.length:=by rw[p4,a];rfl
 apply List.ext_getElem?
 intro j
 rw[y3]
 split
 ·rename_i e;subst e
  split
  ·rw[this,← b]
  ·rename_i c;rw[List.length_map] at c;have:=(hn.1 a).1;omega
 ·rfl
theorem vY {as:List bm} {c:aR} {k:Nat} {a:Int} {i:bm} (h1:idx c.Pos (k:Int)=some a) (b:idx as a=some i):i.L=ue as c k:=by
 unfold ue
 rw[kT] at h1
 rw[h1]
 simp only[b]
structure SzR (r:ai):Prop where
 pl:r.Pats.length≤1048576
 sa:dT r.Pats≤1048576
 pa:∀ p∈r.Pats,p.Args.length≤1048576
theorem EB {r:ai} {c:aR} {as:List bm} {s:ag} {id:Int} (a:SzR r) (b:s.Items.length≤1048576) (d:∀ x∈s.Items,x.F.Fields.length≤1048576):SzG ⟨pos r.Pats,neg r.Pats,c,as,s,id⟩:=by
 have h1:=wn r.Pats
 have e:=a.sa
 have f:(pos r.Pats).length≤r.Pats.length:=p7 _ _
 have g:(neg r.Pats).length≤r.Pats.length:=p7 _ _
 have h:=a.pl
 exact⟨by simp only;omega,by simp only;omega,fun p hp=>a.pa p (List.mem_filter.1 hp).1,by simp only;omega,fun p hp=>a.pa p (List.mem_filter.1 hp).1,b,d⟩
theorem Hh (l:List au):(l.filter fun p=>p.Not == true)=neg l:=by
 unfold neg;congr 1;funext p;cases p.Not <;> rfl
theorem Lc {N:Nat} (n:1099000000000≤N) (r:ai) (c:aR) (as:List bm) (s:ag) (id:Int) (row:aP) (o:SzR r) (p:s.Items.length≤1048576) (q:∀ x∈s.Items,x.F.Fields.length≤1048576) (ok:Ce as r c row) {β:Type} (K:List ao→Option β) :
  ((idx row.Levels (IntKind.i64.wrap ((row.Levels.length:Int) - 1))).bind fun v=>((gv N ⟨pos r.Pats,neg r.Pats,c,as,s,id⟩ v.Toks 1).bind fun w=>((gN N ⟨pos r.Pats,neg r.Pats,c,as,s,id⟩ (row.Levels.set (IntKind.i64.wrap ((row.Levels.length:Int) - 1)).toNat (⟨w⟩:ao))).bind fun y=>K y)))
   = K (oL s.Items as (aK s.Items id).1 id r c row).Levels:=by
 have l:=EB (c:=c) (as:=as) (s:=s) (id:=id) o p q
 have D:=ok.ne
 have E:=ok.ll
 have z:=l.pl
 simp only at z
 have A:IntKind.i64.wrap ((row.Levels.length:Int) - 1)=((row.Levels.length - 1:Nat):Int):=by
  rw[show ((row.Levels.length:Int) - 1)=((row.Levels.length - 1:Nat):Int) by omega]
  exact wr MB MB
 have m:row.Levels.length - 1 < row.Levels.length:=by omega
 have d:row.Levels[row.Levels.length - 1]?=some row.Levels[row.Levels.length - 1]:=hh m
 have hlen:(row.Levels[row.Levels.length - 1]).Toks.length≤4294967296:=wN ok.fit _ (hQ.2 ⟨_,hz m,rfl⟩)
 rw[A,an m,gf,Hu n _ l _ 1 hlen (fun t g=>⟨by have:=ok.ids _ _ d t g;simp only;omega,ok.hit _ d t g⟩),gf,hX]
 have B:=C7 (M:=jV s.Items (pos r.Pats) (neg r.Pats) (aK s.Items id).1 1 (row.Levels[row.Levels.length - 1]).Toks) d (vK _)
 have C:=JN n _ l (row.Levels.set (row.Levels.length - 1) ⟨jV s.Items (pos r.Pats) (neg r.Pats) (aK s.Items id).1 1 (row.Levels[row.Levels.length - 1]).Toks⟩) (ue as c) (by simp only[oj];omega)
  (fun k hk=>by
   rw[oj] at hk
   obtain⟨a,i,h1,j⟩:=ok.at_ k hk
   exact⟨a,i,h1,j,vY h1 j⟩) ok.al
  (fun i L h t g=>by
   rw[y3] at h
   split at h
   ·rename_i e;subst e
    ·simp only[Option.some.injEq] at h
     subst h
     have h1:=vF (xs:=s.Items) (ps:=pos r.Pats) (ns:=neg r.Pats) (f:=(aK s.Items id).1) (b:=1) (row.Levels[row.Levels.length - 1]).Toks
     have j:t.Ids∈(row.Levels[row.Levels.length - 1]).Toks.map (·.Ids):=by rw[← h1];exact hQ.2 ⟨t,g,rfl⟩
     obtain⟨u,hu,e⟩:=hQ.1 j
     rw[← e];exact ok.ids _ _ d u hu
   ·exact ok.ids i L h t g)
  (by rw[B];exact ok.fit)
 rw[C,gf]
 unfold oL fN
 rw[d]
theorem Fk {N:Nat} (u:1099000000000≤N) (d:bo) (n:bO) (m:aI) (s:ag) (id:Int) (as:List bm) (y:s.Items.length≤1048576) (z:∀ x∈s.Items,x.F.Fields.length≤1048576) (A:m.Rules.length≤1048576) :
  ∀ (ws:List aP) (b:List ai) (cs:List aR) (k:Nat) (e:List ai) (f:List aR) (a:List aP),ws.length < k→d.Rules=e++b→n.Chains=f++cs→a.length+ws.length=m.Rules.length→e.length=a.length→f.length=a.length→b.length=ws.length→cs.length=ws.length →
   (∀ (i:Nat) (r:ai) (c:aR) (w:aP),b[i]?=some r→cs[i]?=some c→ws[i]?=some w→SzR r∧Ce as r c w) →
   ev N d n m s id as k (a++ws) (a.length:Int)=some (as,a++o4 (oL s.Items as (aK s.Items id).1 id) b cs ws)
 | [],b,cs,k,e,f,a,hk,h1,g,h,l,o,p,q,t=>by
  obtain⟨k,rfl⟩:∃ j,k=j+1:=⟨k - 1,by simp at hk;omega⟩
  simp only[ha,q0] at h
  have c1:decide ((a.length:Int) < (m.Rules.length:Int))=false:=decide_eq_false MB
  simp only[ev,c1,gh,if_false]
  cases b <;> cases cs <;> simp[o4]
 | w :: ws,[],cs,k,e,f,a,hk,h1,g,h,l,o,p,q,t=>by simp at p
 | w :: ws,r :: b,[],k,e,f,a,hk,h1,g,h,l,o,p,q,t=>by simp at q
 | w :: ws,r :: b,c :: cs,k,e,f,a,hk,h1,g,h,l,o,p,q,t=>by
  obtain⟨k,rfl⟩:∃ j,k=j+1:=⟨k - 1,MB⟩
  simp only[gx] at hk h p q
  have c1:decide ((a.length:Int) < (m.Rules.length:Int))=true:=decide_eq_true MB
  obtain⟨v,B⟩:=t 0 r c w rfl rfl rfl
  have C:idx d.Rules (a.length:Int)=some r:=by rw[h1,← l];exact dI _ _ _
  have D:idx n.Chains (a.length:Int)=some c:=by rw[g,← o];exact dI _ _ _
  simp only[ev,c1,if_true,dI,gf,oq,C,D,C4 u r false v.pl,C4 u r true v.pl,Jt,Hh]
  rw[Lc u r c as s id w v y z B (fun E=>ev N d n m s id as k ((a++w :: ws).set (a.length:Int).toNat (⟨E⟩:aP)) (IntKind.i64.wrap ((a.length:Int)+1)))]
  rw[hX,kt,wr1 a.length MB]
  have:=Fk u d n m s id as y z A ws b cs k (e++[r]) (f++[c]) (a++[⟨(oL s.Items as (aK s.Items id).1 id r c w).Levels⟩]) MB (by rw[h1];simp) (by rw[g];simp) (by simp;omega) (by simp[l]) (by simp[o]) MB MB
   (fun i F G w' H a2 a3=>t (i+1) F G w' (by simpa using H) (by simpa using a2) (by simpa using a3))
  simp only[hd,gx,ha,ht] at this
  rw[this,gk]
  rfl
theorem FC {N:Nat} (o:1099000000000≤N) (d:bo) (n:bO) (m:aI) (s:ag) (id:Int) (f:aH × Bool) (p:∀ a∈n.Alphas,a.At.length≤1048576) (q:n.Alphas.length≤1048576) :
  ∀ (as:List ax) (k:Nat) (b:List ax) (c is:List bm),as.length < k→n.Alphas=b++as→c.length=b.length→is.length=as.length→(∀ i∈is,i.L.length+1≤4294967296) →
   ei N d n m s id f k (c++is) (b.length:Int)=ev N d n m s id (c++cF f.1 id as is) N m.Rules 0
 | [],k,b,c,is,hk,h1,e,g,h=>by
  obtain⟨k,rfl⟩:∃ j,k=j+1:=⟨k - 1,by simp at hk;omega⟩
  have c1:decide ((b.length:Int) < (n.Alphas.length:Int))=false:=decide_eq_false (by rw[h1];simp)
  simp only[ei,c1,gh,if_false,cF]
 | a :: as,k,b,c,[],hk,h1,e,g,h=>by simp at g
 | a :: as,k,b,c,i :: is,hk,h1,e,g,h=>by
  obtain⟨k,rfl⟩:∃ j,k=j+1:=⟨k - 1,MB⟩
  simp only[gx] at hk g
  have z:n.Alphas.length=b.length+(as.length+1):=by rw[h1];simp
  have c1:decide ((b.length:Int) < (n.Alphas.length:Int))=true:=decide_eq_true MB
  have r:idx n.Alphas (b.length:Int)=some a:=by rw[h1];exact dI _ _ _
  have t:idx (c++i :: is) (b.length:Int)=some i:=by rw[← e];exact dI _ _ _
  have u:a∈n.Alphas:=by rw[h1];simp
  have v:=h i MC
  have l:=fun y=>FC o d n m s id f p q as k (b++[a]) (c++[y]) is MB (by rw[h1];simp) (by simp[e]) MB (fun j w=>h j (by simp[w]))
  simp only[hd,gx,ha,ht,gk,hW,hB] at l
  simp only[ei,c1,if_true,r,gf,Gy o a f.1 (p a u),wr1 b.length MB,cF]
  cases hp:fH a f.1 with
  | true=>
   simp only[if_true,t,gf,bD (show i.L.length+[id].length≤4294967296 by simpa using v)]
   have x:(c++i :: is).set ((b.length:Int)).toNat (⟨i.L++[id]⟩:bm)=c++⟨i.L++[id]⟩ :: is:=by
    rw[hX,← e,kt,gk];rfl
   rw[x]
   exact l _
  | false=>
   simp only[gh,if_false]
   exact l i
structure J9 (d:bo) (n:bO) (m:aI) (s:ag) (id:Int):Prop where
 sl:s.Items.length≤1048576
 fl:∀ x∈s.Items,x.F.Fields.length≤1048576
 at_:∀ a∈n.Alphas,a.At.length≤1048576
 al:n.Alphas.length≤1048576
 rl:m.Rules.length≤1048576
 la:m.Alphas.length=n.Alphas.length
 lc:n.Chains.length=m.Rules.length
 ld:d.Rules.length=m.Rules.length
 il:∀ i∈m.Alphas,i.L.length+1≤4294967296
 rows:∀ (i:Nat) (r:ai) (c:aR) (w:aP),d.Rules[i]?=some r→n.Chains[i]?=some c→m.Rules[i]?=some w→SzR r∧Ce (cF (aK s.Items id).1 id n.Alphas m.Alphas) r c w
theorem KZ {N:Nat} (a:1099000000000≤N) (d:bo) (n:bO) (m:aI) (s:ag) (id:Int) (h:J9 d n m s id):ny N d n m s id=some ((zg d n m s id).Alphas,(zg d n m s id).Rules):=by
 have e:=h.al
 have f:=h.rl
 unfold ny
 rw[yw a s id h.sl h.fl,gf]
 have h1:=FC a d n m s id (aK s.Items id) h.at_ h.al n.Alphas N [] [] m.Alphas MB rfl rfl h.la h.il
 simp only[hB,ha,nn] at h1
 have c:ei N d n m s id (aK s.Items id) N m.Alphas 0=_:=h1
 rw[c]
 have b:=Fk a d n m s id (cF (aK s.Items id).1 id n.Alphas m.Alphas) h.sl h.fl h.rl m.Rules d.Rules n.Chains N [] [] [] MB rfl rfl MC rfl rfl h.ld h.lc h.rows
 simp only[hB,ha,nn] at b
 exact b
def InR (x:Int):Prop:=IntKind.i64.wrap x=x
theorem DD {N:Nat} (c s2:Int) (K:List ah→Int→Option (List ah)) (f:aH) (l:List aq) (o:c=1∨c = -1) (d:List Int) (r:d.length≤1048576) (done:List ah) (k:s2=(done.length:Int)) (ids:List Int) (rest:List ah) :
  ∀ (ns:List au) (n:Nat) (a b h:List Int),ns.length < n→d=a++pu ns f l→b.length=a.length→h.length=ns.length→(∀ x∈h,InR x) →
   dy N c s2 K (l,true) d n (done++⟨ids,b++h⟩ :: rest) (a.length:Int)=K (done++⟨ids,b++lI f l c ns h⟩ :: rest) (IntKind.i64.wrap (s2+1))
 | [],n,a,b,h,g,h1,e,i,j=>by
  obtain⟨n,rfl⟩:∃ m,n=m+1:=⟨n - 1,by simp at g;omega⟩
  have c1:decide ((a.length:Int) < (d.length:Int))=false:=decide_eq_false (by rw[h1];simp[pu])
  simp only[dy,c1,gh,if_false,gf,lI]
 | p :: ns,n,a,b,[],g,h1,e,i,j=>by simp at i
 | p :: ns,n,a,b,x :: h,g,h1,e,i,j=>by
  obtain⟨n,rfl⟩:∃ m,n=m+1:=⟨n - 1,MB⟩
  simp only[gx] at g i
  have D:d.length=a.length+(ns.length+1):=by rw[h1];simp[pu]
  have c1:decide ((a.length:Int) < (d.length:Int))=true:=decide_eq_true MB
  have q:pu (p :: ns) f l=(if (bv p f l).2=true then 1 else 0) :: pu ns f l:=rfl
  have s:idx d (a.length:Int)=some (if (bv p f l).2=true then 1 else 0):=by rw[h1,q];exact dI _ _ _
  have t:idx (done++(⟨ids,b++x :: h⟩:ah) :: rest) s2=some ⟨ids,b++x :: h⟩:=by rw[k];exact dI _ _ _
  have u:idx (b++x :: h) (a.length:Int)=some x:=by rw[← e];exact dI _ _ _
  have v:IntKind.i64.wrap x=x:=j x MC
  have w:IntKind.i64.wrap (x+IntKind.i64.wrap (c*(if (bv p f l).2=true then 1 else 0)))=if (bv p f l).2=true then IntKind.i64.wrap (x+c) else x:=by
   split
   ·rw[Int.mul_one]
    have:IntKind.i64.wrap c=c:=by rcases o with rfl | rfl <;> decide
    rw[this]
   ·rw[Int.mul_zero,show IntKind.i64.wrap 0=0 by decide,Int.add_zero,v]
  have A:∀ y:Int,(b++x :: h).set ((a.length:Int)).toNat y=(b++[y])++h:=fun y=>by rw[hX,← e];exact kt _ _ _ _
  have B:∀ y:ah,(done++(⟨ids,b++x :: h⟩:ah) :: rest).set s2.toNat y=done++y :: rest:=fun y=>by rw[k,hX,kt,gk];rfl
  simp only[dy,c1,if_true,gf,s,t,u,w,A,B,wr1 a.length MB]
  have:=DD (N:=N) c s2 K f l o d r done k ids rest ns n (a++[if (bv p f l).2=true then 1 else 0]) (b++[if (bv p f l).2=true then IntKind.i64.wrap (x+c) else x]) h MB (by rw[h1,q];simp) (by simp[e]) MB (fun z C=>j z (by simp[C]))
  simp only[hd,gx,ha,ht] at this
  rw[this,lI]
  simp only[gk,hW,hB]
theorem FN {N:Nat} (g:1099000000000≤N) (r:ai) (s:ag) (d:SzS r s) (f:aH) (a:Int) (j:a=1∨a = -1) (c:List ah) (k:c.length≤4294967296)
  (o:∀ t∈c,t.Ids.length≤af r.Pats∧t.Hits.length=(neg r.Pats).length∧∀ x∈t.Hits,InR x):lx N r s c f a=some (jV s.Items (pos r.Pats) (neg r.Pats) f a c):=by
 have B:=d.pl
 have C:(neg r.Pats).length≤r.Pats.length:=p7 _ _
 unfold lx
 have lp:∀ (b:List ah) (n:Nat) (done:List ah),b.length < n→done.length+b.length≤4294967296→(∀ t∈b,t∈c)→cD N r s f a n (done++b) (done.length:Int)=some (done++jV s.Items (pos r.Pats) (neg r.Pats) f a b):=by
  intro b
  induction b with
  | nil=>
   intro n done e i hm
   obtain⟨n,rfl⟩:∃ m,n=m+1:=⟨n - 1,by simp at e;omega⟩
   have c1:decide ((done.length:Int) < ((done++[]).length:Int))=false:=decide_eq_false MC
   simp only[cD,c1,gh,if_false,jV,q2]
  | cons t b p=>
   intro n done e i hm
   obtain⟨n,rfl⟩:∃ m,n=m+1:=⟨n - 1,MB⟩
   simp only[gx] at e i
   have c1:decide ((done.length:Int) < ((done++t :: b).length:Int))=true:=decide_eq_true (by simp;omega)
   obtain⟨h1,q,v⟩:=o t (hm t MC)
   obtain⟨l,g1,g2,g3⟩:=AP g r s d t.Ids h1
   simp only[cD,c1,if_true,dI,gf,g1,Jg g r f l d.pl d.pa g3]
   have w:jV s.Items (pos r.Pats) (neg r.Pats) f a (t :: b)=(if (okB s.Items (pos r.Pats) t.Ids).2=true then ⟨t.Ids,lI f (okB s.Items (pos r.Pats) t.Ids).1 a (neg r.Pats) t.Hits⟩ else t) :: jV s.Items (pos r.Pats) (neg r.Pats) f a b:=rfl
   rw[w]
   have next:=fun y=>p n (done++[y]) MB (by simp;omega) (fun u hu=>hm u (by simp[hu]))
   simp only[hd,gx,ha,ht,gk,hW,hB] at next
   cases z:(okB s.Items (pos r.Pats) t.Ids).2 with
   | false=>
    simp only[gh,if_false]
    have:∀ n,dy N a (done.length:Int) (cD N r s f a n) (l,false) (pu (neg r.Pats) f l) N (done++t :: b) 0=cD N r s f a n (done++t :: b) (IntKind.i64.wrap ((done.length:Int)+1)):=fun n=>by
     obtain⟨M,rfl⟩:∃ m,N=m+1:=⟨N - 1,MB⟩
     unfold dy
     split <;> simp
    rw[this,wr1 done.length MB]
    exact next t
   | true=>
    obtain rfl:=g2 z
    simp only[if_true]
    have:=DD (N:=N) a (done.length:Int) (cD N r s f a n) f (okB s.Items (pos r.Pats) t.Ids).1 j (pu (neg r.Pats) f (okB s.Items (pos r.Pats) t.Ids).1) (by simp[pu];omega) done rfl t.Ids b (neg r.Pats) N [] [] t.Hits MB rfl rfl q v
    simp only[hB,ha,nn] at this
    have A:dy N a (done.length:Int) (cD N r s f a n) ((okB s.Items (pos r.Pats) t.Ids).1,true) (pu (neg r.Pats) f (okB s.Items (pos r.Pats) t.Ids).1) N (done++t :: b) 0=_:=this
    rw[A,wr1 done.length MB]
    exact next _
 have:=lp c N [] MB (by simpa using k) (fun t h=>h)
 simpa using this
def od (xs:List aw) (ps:List au) (row ids:List Int):List ah:=ids.flatMap (kx xs ps row)
def wh (xs:List aw) (ps:List au) (id:Int) (k:Nat) (B F:List ah) (A:List Int):List ah:=
 (if k=0 then kx xs ps [] id else B.flatMap fun t=>kx xs ps t.Ids id)++F.flatMap fun t=>od xs ps t.Ids A
def vU (xs:List aw) (ps ns:List au) (k:Nat) (t:ah):ah:=if k+1=ps.length then ⟨t.Ids,gD xs ns (okB xs ps t.Ids).1⟩ else t
theorem vH {xs:List aw} {ps ns:List au} {row:List Int} {id:Int} {k:Nat} (h:row.length=k):(kx xs ps row id).map (vU xs ps ns k)=nh xs ps ns row id:=by
 subst h
 unfold kx nh
 by_cases a:(okB xs ps (row++[id])).2=true
 ·rw[if_pos a,if_pos a,hS,q2]
  unfold vU
  by_cases hk:row.length+1=ps.length
  ·rw[if_pos hk,if_pos hk]
  ·rw[if_neg hk,if_neg hk]
 ·rw[if_neg a,if_neg a];rfl
theorem Et {xs:List aw} {ps ns:List au} {row:List Int} {k:Nat} (h:row.length=k) (ids:List Int):(od xs ps row ids).map (vU xs ps ns k)=fM xs ps ns row ids:=by
 unfold od fM
 rw[L2]
 congr 1
 funext v
 exact vH h
theorem m7 {α β:Type} {f g:α→List β}:∀ {l:List α},(∀ x∈l,f x=g x)→l.flatMap f=l.flatMap g
 | [],_=>rfl
 | x :: t,h=>by rw[jf,jf,h x MC,m7 fun y a=>h y (by simp[a])]
theorem ED {xs:List aw} {ps ns:List au} {id:Int} {k:Nat} {B F:List ah} {A:List Int} (b:k=0→F=[]) (c:∀ t∈B,t.Ids.length=k) (d:∀ t∈F,t.Ids.length=k):(wh xs ps id k B F A).map (vU xs ps ns k)=iA xs ps ns id k B F A:=by
 unfold wh iA
 rw[px]
 by_cases hk:k=0
 ·rw[if_pos hk,if_pos hk,b hk,vH (by simp[hk])]
  simp[fM]
 ·rw[if_neg hk,if_neg hk,L2,L2]
  congr 1
  ·refine m7 fun t a=>?_
   rw[vH (c t a)];simp[fM]
  ·exact m7 fun t a=>Et (d t a) A
theorem tp (xs:List aw) (ps:List au) (row:List Int) (id:Int):(kx xs ps row id).length≤1:=by unfold kx;split <;> simp
theorem zz (xs:List aw) (ps:List au) (row:List Int):∀ (ids:List Int),(od xs ps row ids).length≤ids.length
 | []=>by simp[od]
 | v :: ids=>by
  have h1:=zz xs ps row ids
  have a:=tp xs ps row v
  unfold od at h1 ⊢
  rw[jf,hd,gx];omega
theorem Hf {xs:List aw} {ps:List au} {id:Int} {k:Nat} {B F:List ah} {A:List Int} (c:∀ t∈B,t.Ids.length=k) (d:∀ t∈F,t.Ids.length=k):∀ t∈wh xs ps id k B F A,t.Ids.length=k+1∧(okB xs ps t.Ids).2=true:=by
 have b:∀ (row:List Int) (v:Int),row.length=k→∀ t∈kx xs ps row v,t.Ids.length=k+1∧(okB xs ps t.Ids).2=true:=fun row v e t a=>by
  unfold kx at a
  split at a
  ·simp only[hZ] at a;subst a;exact⟨by simp[e],by assumption⟩
  ·cases a
 intro t a
 unfold wh at a
 rcases gb.1 a with h | h
 ·split at h
  ·rename_i hk;exact b [] id (by simp[hk]) t h
  ·obtain⟨u,hu,h⟩:=j5.1 h
   exact b _ _ (c u hu) t h
 ·obtain⟨u,hu,h⟩:=j5.1 h
  unfold od at h
  obtain⟨v,_,h⟩:=j5.1 h
  exact b _ _ (d u hu) t h
theorem Ix {N:Nat} (c:1099000000000≤N) (r:ai) (s:ag) (e:SzS r s) (F:List ah) (a:bm) (j:Nat) (K:List ah→Int→Option aI) (t:ah) (f:idx F (j:Int)=some t) (m:j≤4294967296) (g:t.Ids.length+1≤af r.Pats) (h:a.L.length≤4294967296) (b:List ah) (k:b.length+a.L.length≤4294967296) :
  fu N r s F a (j:Int) K N b 0=K (b++od s.Items (pos r.Pats) t.Ids a.L) ((j+1:Nat):Int):=by
 refine lp' c a.L h (fun n (u:List ah) i=>fu N r s F a (j:Int) K n u i) (fun w u=>K (u++od s.Items (pos r.Pats) t.Ids w) ((j+1:Nat):Int)) (fun u w=>u.length+w.length≤4294967296) b k (fun n u i v w g1 g2 g3 g4 g5 g6 d l=>?_) (fun n u i g1 g2 d=>?_)
 ·simp only[gx] at d
  have h1:=tp s.Items (pos r.Pats) t.Ids v
  simp only[fu,g5,if_true,f,g4,gf,Cv c r s e u t.Ids v g MB,g6]
  rw[l _ (by rw[hd];omega)]
  simp[od]
 ·simp only[fu,g2,gh,if_false,wr1 j MB];simp[od]
theorem I2 {N:Nat} (d:1099000000000≤N) (r:ai) (s:ag) (f:SzS r s) (b:aP) (s1:List ao) (F:List ah) (k:Int) (K:List ao→List ah→Int→Option aI) (a:bm) (g:∀ t∈F,t.Ids.length+1≤af r.Pats) (h:F.length≤4294967296) (j:a.L.length≤4294967296) (c:List ah) (l:c.length+F.length*a.L.length≤4294967296) :
  ed N r s b s1 F k K a N c 0=bR N r s b s1 k K N (c++F.flatMap fun t=>od s.Items (pos r.Pats) t.Ids a.L) 0:=by
 refine lp' d F h (fun n (u:List ah) i=>ed N r s b s1 F k K a n u i) (fun w u=>bR N r s b s1 k K N (u++w.flatMap fun t=>od s.Items (pos r.Pats) t.Ids a.L) 0) (fun u w=>u.length+w.length*a.L.length≤4294967296) c l (fun n u i v w g1 g2 g3 g4 g5 g6 e m=>?_) (fun n u i g1 g2 e=>?_)
 ·rw[gx,hI] at e
  have h1:=zz s.Items (pos r.Pats) v.Ids a.L
  simp only[ed,g5,if_true]
  rw[Ix d r s f F a i _ v g4 MB (g v g2) j u MB,m _ (by rw[hd];omega),jf,gk]
 ·simp only[ed,g2,gh,if_false];simp
theorem HN {N:Nat} (j:1099000000000≤N) (r:ai) (s:ag) (e:SzS r s) (a:aP) (done:List ao) (L:ao) (Ls:List ao) (K:List ao→List ah→Int→Option aI) (v:a.Levels.length=(pos r.Pats).length) (hk:done.length+1≤(pos r.Pats).length) (w:(pos r.Pats).length=af r.Pats) (M:List ah)
  (k:∀ t∈M,t.Ids.length=done.length+1∧(okB s.Items (pos r.Pats) t.Ids).2=true) (x:L.Toks.length+M.length≤4294967296) :
  bR N r s a (done++L :: Ls) (done.length:Int) K N M 0=K (done++⟨L.Toks++M.map (vU s.Items (pos r.Pats) (neg r.Pats) done.length)⟩ :: Ls) (M.map (vU s.Items (pos r.Pats) (neg r.Pats) done.length)) ((done.length+1:Nat):Int):=by
 have y:=e.pl
 have z:=dp r.Pats
 have f:IntKind.i64.wrap ((a.Levels.length:Int) - 1)=((a.Levels.length - 1:Nat):Int):=by
  rw[show ((a.Levels.length:Int) - 1)=((a.Levels.length - 1:Nat):Int) by omega]
  exact wr MB MB
 have fin:∀ (n:Nat) (Z:List ah) (i:Int),Z.length=M.length→((if decide (i < (Z.length:Int)) then some (decide ((done.length:Int)=IntKind.i64.wrap ((a.Levels.length:Int) - 1))) else some false)=some false) →
   bR N r s a (done++L :: Ls) (done.length:Int) K (n+1) Z i=K (done++⟨L.Toks++Z⟩ :: Ls) Z ((done.length+1:Nat):Int):=by
  intro n Z i A l
  have o:(done++L :: Ls).set ((done.length:Int)).toNat (⟨L.Toks++Z⟩:ao)=done++⟨L.Toks++Z⟩ :: Ls:=by rw[hX,kt,gk];rfl
  simp only[bR,l,gf,gh,if_false,dI,bD (show L.Toks.length+Z.length≤4294967296 by omega),o,wr1 done.length MB]
 by_cases g:done.length+1=(pos r.Pats).length
 ·have c2:decide ((done.length:Int)=IntKind.i64.wrap ((a.Levels.length:Int) - 1))=true:=by rw[f];exact decide_eq_true MB
  have lp:∀ (Z:List ah) (n:Nat) (D:List ah),Z.length < n→D.length+Z.length=M.length→(∀ t∈Z,t∈M) →
    bR N r s a (done++L :: Ls) (done.length:Int) K n (D++Z) (D.length:Int)=K (done++⟨L.Toks++(D++Z.map (vU s.Items (pos r.Pats) (neg r.Pats) done.length))⟩ :: Ls) (D++Z.map (vU s.Items (pos r.Pats) (neg r.Pats) done.length)) ((done.length+1:Nat):Int):=by
   intro Z
   induction Z with
   | nil=>
    intro n D b c hm
    obtain⟨n,rfl⟩:∃ m,n=m+1:=⟨n - 1,by simp at b;omega⟩
    have c1:decide ((D.length:Int) < ((D++[]).length:Int))=false:=decide_eq_false MC
    rw[fin n (D++[]) (D.length:Int) (by simpa using c) (by rw[c1];rfl)]
    simp
   | cons t Z p=>
    intro n D b c hm
    obtain⟨n,rfl⟩:∃ m,n=m+1:=⟨n - 1,MB⟩
    simp only[gx] at b c
    have c1:decide ((D.length:Int) < ((D++t :: Z).length:Int))=true:=decide_eq_true (by simp;omega)
    obtain⟨h1,q⟩:=k t (hm t MC)
    have d:vU s.Items (pos r.Pats) (neg r.Pats) done.length t=⟨t.Ids,gD s.Items (neg r.Pats) (okB s.Items (pos r.Pats) t.Ids).1⟩:=by unfold vU;rw[if_pos g]
    simp only[bR,c1,if_true,c2,gf,dI,GU j r s e t MB q,hX,kt,wr1 D.length MB]
    have:=p n (D++[⟨t.Ids,gD s.Items (neg r.Pats) (okB s.Items (pos r.Pats) t.Ids).1⟩]) MB (by simp;omega) (fun u hu=>hm u (by simp[hu]))
    simp only[hd,gx,ha,ht] at this
    rw[this,hS,d]
    simp only[gk,hW,hB]
  have:=lp M N [] MB MC (fun t h=>h)
  simpa using this
 ·have c2:decide ((done.length:Int)=IntKind.i64.wrap ((a.Levels.length:Int) - 1))=false:=by rw[f];exact decide_eq_false MB
  have d:M.map (vU s.Items (pos r.Pats) (neg r.Pats) done.length)=M:=by
   rw[show vU s.Items (pos r.Pats) (neg r.Pats) done.length=id from by funext t;unfold vU;rw[if_neg g];rfl,List.map_id]
  obtain⟨m,rfl⟩:∃ m,N=m+1:=⟨N - 1,MB⟩
  rw[d]
  have:=fin m M 0 rfl (by rw[c2];split <;> rfl)
  exact this
theorem Dq {N:Nat} (w:1099000000000≤N) (r:ai) (s:ag) (l:SzS r s) (c:aR) (m:aI) (id:Int) (h:List Bool) (d:aP) (done:List ao) (L:ao) (Ls:List ao) (K:List ao→List ah→Int→Option aI) (k:Nat) (hk:done.length=k) (B F:List ah) (a:Int) (A:bm) (b:Bool)
  (o:idx c.Pos (k:Int)=some a) (E:idx m.Alphas a=some A) (x:idx h a=some b) (G:b=false→∀ row:List Int,row.length=k→kx s.Items (pos r.Pats) row id=[])
  (H:k≠0→∃ D,done=D++[⟨B++F⟩]) (I:k=0→B=[]) (M:k+1≤af r.Pats) (y:∀ t∈B,t.Ids.length=k) (O:∀ t∈F,t.Ids.length=k) (P:A.L.length≤4294967296) (Q:F.length≤4294967296) (j:List ah) (R:j.length+B.length+F.length*A.L.length≤4294967296) :
  dt N r c m s id h d (done++L :: Ls) F (k:Int) K (B.length:Int) N j 0=bR N r s d (done++L :: Ls) (k:Int) K N (j++(B.flatMap fun t=>kx s.Items (pos r.Pats) t.Ids id)++F.flatMap fun t=>od s.Items (pos r.Pats) t.Ids A.L) 0:=by
 have a1:=l.pl
 have a6:=dp r.Pats
 have tail:∀ (n:Nat) (u:List ah) (i:Int),((if decide (i < (B.length:Int)) then ((idx c.Pos (k:Int)).bind fun S=>((idx h S).bind fun T=>some T)) else some false)=some false)→u.length+F.length*A.L.length≤4294967296 →
   dt N r c m s id h d (done++L :: Ls) F (k:Int) K (B.length:Int) (n+1) u i=bR N r s d (done++L :: Ls) (k:Int) K N (u++F.flatMap fun t=>od s.Items (pos r.Pats) t.Ids A.L) 0:=by
  intro n u i U hu
  unfold dt
  rw[U]
  simp only[gf,gh,if_false,o,E]
  exact I2 w r s l d _ F (k:Int) K A (fun t p=>by rw[O t p];exact M) Q P u hu
 cases b with
 | false=>
  have q:(B.flatMap fun t=>kx s.Items (pos r.Pats) t.Ids id)=[]:=by
   rw[m7 (g:=fun _=>[]) fun t p=>G rfl _ (y t p)];simp
  obtain⟨n,rfl⟩:∃ n,N=n+1:=⟨N - 1,MB⟩
  rw[q,List.append_nil]
  exact tail n j 0 (by simp only[o,x,gf];split <;> rfl) MB
 | true=>
  have lp:∀ (Z:List ah) (n:Nat) (D:List ah) (u:List ah),Z.length < n→B=D++Z→u.length+Z.length+F.length*A.L.length≤4294967296 →
    dt N r c m s id h d (done++L :: Ls) F (k:Int) K (B.length:Int) n u (D.length:Int)=bR N r s d (done++L :: Ls) (k:Int) K N (u++(Z.flatMap fun t=>kx s.Items (pos r.Pats) t.Ids id)++F.flatMap fun t=>od s.Items (pos r.Pats) t.Ids A.L) 0:=by
   intro Z
   induction Z with
   | nil=>
    intro n D u v f hu
    obtain⟨n,rfl⟩:∃ m,n=m+1:=⟨n - 1,by simp at v;omega⟩
    have c1:decide ((D.length:Int) < (B.length:Int))=false:=decide_eq_false (by rw[f];simp)
    rw[tail n u _ (by rw[c1];rfl) (by simpa using hu)]
    simp
   | cons t Z V=>
    intro n D u v f hu
    obtain⟨n,rfl⟩:∃ m,n=m+1:=⟨n - 1,MB⟩
    simp only[gx] at v hu
    have z:B.length=D.length+(Z.length+1):=by rw[f];simp
    have c1:decide ((D.length:Int) < (B.length:Int))=true:=decide_eq_true MB
    have W:k≠0:=fun e=>by rw[I e] at z;simp at z
    obtain⟨D',C⟩:=H W
    have X:IntKind.i64.wrap ((k:Int) - 1)=((k - 1:Nat):Int):=by
     rw[show ((k:Int) - 1)=((k - 1:Nat):Int) by omega]
     exact wr MB MB
    have q:idx (done++L :: Ls) ((k - 1:Nat):Int)=some ⟨B++F⟩:=by
     rw[C,gk,← hk,C,kT]
     simp
    have Y:idx (B++F) (D.length:Int)=some t:=by rw[f,gk];exact dI _ _ _
    have h1:=tp s.Items (pos r.Pats) t.Ids id
    have a7:=y t (by rw[f];simp)
    simp only[dt,c1,if_true,o,x,gf,X,q,Y,Cv w r s l u t.Ids id MB MB,wr1 D.length MB]
    have:=V n (D++[t]) (u++kx s.Items (pos r.Pats) t.Ids id) MB (by rw[f];simp) (by rw[hd];omega)
    simp only[hd,gx,ha,ht] at this
    rw[this,jf]
    simp only[gk]
  exact lp B N [] j MB rfl R
theorem DN {N:Nat} (o:1099000000000≤N) (r:ai) (s:ag) (h:SzS r s) (c:aR) (m:aI) (at_ id:Int) (f:List Bool) (d:aP) (O:d.Levels.length=(pos r.Pats).length) (Z:1≤d.Levels.length) (P:(pos r.Pats).length=af r.Pats) (A:Nat→List Int) (w:∀ k,(A k).length≤4294967296)
  (Q:∀ k,k < d.Levels.length→∃ a i b,idx c.Pos (k:Int)=some a∧idx m.Alphas a=some i∧i.L=A k∧idx f a=some b∧(b=false→∀ row:List Int,row.length=k→kx s.Items (pos r.Pats) row id=[])) :
  ∀ (rest:List ao) (n:Nat) (done:List ao) (B F:List ah),rest.length < n→done.length+rest.length=d.Levels.length→(done.length≠0→∃ D,done=D++[⟨B++F⟩])→(done.length=0→B=[]∧F=[])→(∀ t∈B,t.Ids.length=done.length)→(∀ t∈F,t.Ids.length=done.length)→(∀ i L,rest[i]?=some L→∀ t∈L.Toks,t.Ids.length=done.length+1+i) →
   F.length≤4294967296→uY (fun k=>(A k).length) done.length (rest.map (·.Toks.length)) B.length F.length →
   br N r c m at_ s id f d n (done++rest) F (done.length:Int)=some ⟨m.Alphas,m.Rules.set at_.toNat ⟨done++lm s.Items (pos r.Pats) (neg r.Pats) id A done.length rest B F⟩⟩
 | [],n,done,B,F,x,y,R,z,p,q,C,S,T=>by
  obtain⟨n,rfl⟩:∃ m,n=m+1:=⟨n - 1,by simp at x;omega⟩
  simp only[ha,q0] at y
  have a1:=h.pl
  have a6:=dp r.Pats
  have E:IntKind.i64.wrap ((d.Levels.length:Int) - 1)=((d.Levels.length - 1:Nat):Int):=by
   rw[show ((d.Levels.length:Int) - 1)=((d.Levels.length - 1:Nat):Int) by omega]
   exact wr MB MB
  have c1:decide ((done.length:Int)≤IntKind.i64.wrap ((d.Levels.length:Int) - 1))=false:=by rw[E];exact decide_eq_false MB
  simp only[br,c1,gh,if_false,lm]
 | L :: Ls,n,done,B,F,x,y,R,z,p,q,C,S,T=>by
  obtain⟨n,rfl⟩:∃ m,n=m+1:=⟨n - 1,MB⟩
  simp only[gx] at x y
  obtain⟨U,V⟩:=T
  simp only at U V
  have a1:=h.pl
  have a6:=dp r.Pats
  have E:IntKind.i64.wrap ((d.Levels.length:Int) - 1)=((d.Levels.length - 1:Nat):Int):=by
   rw[show ((d.Levels.length:Int) - 1)=((d.Levels.length - 1:Nat):Int) by omega]
   exact wr MB MB
  have c1:decide ((done.length:Int)≤IntKind.i64.wrap ((d.Levels.length:Int) - 1))=true:=by rw[E];exact decide_eq_true MB
  obtain⟨a,i,b,G,W,v,H,I⟩:=Q done.length MB
  have a7:=vI s.Items (pos r.Pats) (neg r.Pats) id done.length B F (A done.length)
  have a8:=zq (xs:=s.Items) (ps:=pos r.Pats) (ns:=neg r.Pats) (id:=id) (A:=A done.length) p q
  have X:=ED (xs:=s.Items) (ps:=pos r.Pats) (ns:=neg r.Pats) (id:=id) (A:=A done.length) (fun e=>(z e).2) p q
  have aa:=Hf (xs:=s.Items) (ps:=pos r.Pats) (id:=id) (A:=A done.length) p q
  have ae:(wh s.Items (pos r.Pats) id done.length B F (A done.length)).length=(iA s.Items (pos r.Pats) (neg r.Pats) id done.length B F (A done.length)).length:=by rw[← X,List.length_map]
  have key:∀ M,M=wh s.Items (pos r.Pats) id done.length B F (A done.length)→bR N r s d (done++L :: Ls) (done.length:Int) (br N r c m at_ s id f d n) N M 0=some ⟨m.Alphas,m.Rules.set at_.toNat ⟨done++lm s.Items (pos r.Pats) (neg r.Pats) id A done.length (L :: Ls) B F⟩⟩:=by
   intro M hM
   subst hM
   rw[HN o r s h d done L Ls _ O MB P _ aa MB,X]
   have:=DN o r s h c m at_ id f d O Z P A w Q Ls n (done++[⟨L.Toks++iA s.Items (pos r.Pats) (neg r.Pats) id done.length B F (A done.length)⟩]) L.Toks (iA s.Items (pos r.Pats) (neg r.Pats) id done.length B F (A done.length)) MB (by simp;omega)
    (fun _=>⟨done,rfl⟩) (fun e=>by simp at e) (fun t u=>by have:=C 0 L rfl t u;simpa using this) (fun t u=>by simpa using a8 t u) (fun j M hj t u=>by have:=C (j+1) M (by simpa using hj) t u;simp only[hd,gx,ha];omega) MB
    (by simp only[hd,gx,ha];exact vX V (hN _) a7)
   simp only[hd,gx,ha,ht,gk,hW,hB] at this
   exact this
  simp only[br,c1,if_true]
  by_cases g:done.length=0
  ·obtain⟨rfl,rfl⟩:=z g
   have c2:decide ((done.length:Int)=0)=true:=decide_eq_true MB
   have K:decide ((0:Int) < (done.length:Int))=false:=decide_eq_false MB
   have ab:idx c.Pos 0=some a:=by rw[← G,g];rfl
   have h1:=tp s.Items (pos r.Pats) [] id
   have fin:∀ l,l=kx s.Items (pos r.Pats) [] id→gH N r c m s id f d (done++L :: Ls) [] (done.length:Int) (br N r c m at_ s id f d n) l=some ⟨m.Alphas,m.Rules.set at_.toNat ⟨done++lm s.Items (pos r.Pats) (neg r.Pats) id A done.length (L :: Ls) [] []⟩⟩:=by
    intro l hu
    unfold gH iH
    rw[K]
    simp only[gh,if_false]
    have aj:l.length≤1:=by rw[hu];exact h1
    have:=Dq o r s h c m id f d done L Ls (br N r c m at_ s id f d n) done.length rfl [] [] a i b G W H I (fun e=>absurd g e) (fun _=>rfl) MB MC MC (by rw[v];exact w _) MC l (by simp;omega)
    simp only[ha,nn] at this
    have h5:dt N r c m s id f d (done++L :: Ls) [] (done.length:Int) (br N r c m at_ s id f d n) 0 N l 0=_:=this
    rw[h5]
    exact key _ (by unfold wh;rw[if_pos g,hu];simp)
   simp only[c2,if_true,ab,H,gf]
   cases b with
   | true=>
    simp only[if_true,Cv o r s h [] [] id (by simp;omega) MC,gf]
    exact fin _ MC
   | false=>
    simp only[gh,if_false]
    exact fin _ (I rfl [] (by simp[g])).symm
  ·have c2:decide ((done.length:Int)=0)=false:=decide_eq_false MB
   have K:decide ((0:Int) < (done.length:Int))=true:=decide_eq_true MB
   obtain⟨D',Y⟩:=R g
   have ad:IntKind.i64.wrap ((done.length:Int) - 1)=((done.length - 1:Nat):Int):=by
    rw[show ((done.length:Int) - 1)=((done.length - 1:Nat):Int) by omega]
    exact wr MB MB
   have e1:idx (done++L :: Ls) ((done.length - 1:Nat):Int)=some ⟨B++F⟩:=by
    rw[Y,gk,kT]
    simp
   rw[if_neg g] at U
   have ak:B.length≤4294967296:=by omega
   have e2:IntKind.i64.wrap (((B++F).length:Int) - (F.length:Int))=(B.length:Int):=by
    rw[hd,show (((B.length+F.length:Nat):Int) - (F.length:Int))=(B.length:Int) by omega]
    exact wr MB MB
   simp only[c2,gh,if_false,gf,gH,K,if_true,ad,e1,e2,iH]
   rw[Dq o r s h c m id f d done L Ls _ done.length rfl B F a i b G W H I (fun _=>⟨D',Y⟩) (fun e=>absurd e g) MB p q (by rw[v];exact w _) S [] (by rw[v];simp;omega)]
   exact key _ (by unfold wh;rw[if_neg g,v];simp)
theorem A1 {b0:List aq}:∀ (as:List bn) (vs:List bi) (s:List aq) (pre:List bi),(dP b0 as vs s).2=true→as.length=vs.length→jG (pre++vs) (ats pre.length as) (jM as)=true
 | [],vs,s,pre,_,_=>rfl
 | a :: as,[],s,pre,_,c=>by simp at c
 | a :: as,v :: vs,s,pre,h,c=>by
  have e:as.length=vs.length:=by simpa using c
  have next:∀ d,(dP b0 as vs d).2=true→jG (pre++v :: vs) (ats (pre.length+1) as) (jM as)=true:=fun d f=>by
   have:=A1 as vs d (pre++[v]) f e
   simpa using this
  unfold dP at h
  unfold ats jM
  by_cases b:a.K=2
  ·rw[if_pos b] at h
   rw[if_pos b,if_pos b]
   by_cases he:bq a.V v=true
   ·rw[if_pos he] at h
    rw[hP,decide_eq_true_eq] at he
    unfold jG
    have g:idx (pre++v :: vs) (pre.length:Int)=some a.V:=by
     rw[an (show pre.length < (pre++v :: vs).length by simp),he];simp
    rw[next s h,g,decide_eq_true (show (0:Int)≤(pre.length:Int) by omega),decide_eq_true (show (pre.length:Int) < ((pre++v :: vs).length:Int) by simp;omega)]
    simp
   ·rw[if_neg he] at h;cases h
  ·rw[if_neg b] at h
   rw[if_neg b,if_neg b]
   split at h
   ·split at h
    ·split at h
     ·exact next s h
     ·cases h
    ·exact next _ h
   ·exact next s h
theorem AF {p:au} {f:aH} {b:List aq} (h:(bv p f b).2=true):fH (bb p) f=true:=by
 unfold bv at h
 split at h
 ·rename_i a
  have:=A1 p.Args f.Fields b [] h a.2
  have hk:seq f.Kind p.Kind=true:=by
   have:=a.1
   rw[kA,decide_eq_true_eq] at this ⊢
   exact this.symm
  show ((seq f.Kind p.Kind && decide ((f.Fields.length:Int)=(p.Args.length:Int))) && jG f.Fields (ats 0 p.Args) (jM p.Args))=true
  rw[hk,decide_eq_true (show (f.Fields.length:Int)=(p.Args.length:Int) by omega)]
  simpa using this
 ·cases h
theorem Gi {N:Nat} (r:1099000000000≤N) (a:ax) (f:aH) (h:a.At.length≤1048576) (s:f.Fields.length≤1048576):oR N a f=some (fH a f):=by
 have k:IntKind.i64.wrap ((f.Fields.length:Int) - 1)=(f.Fields.length:Int) - 1:=wr MB MB
 have lp:∀ (n i:Nat),i≤a.At.length→a.At.length - i < n→ie N a f n i=some (jG f.Fields (a.At.drop i) (a.Consts.drop i)):=by
  intro n
  induction n with
  | zero=>intro i _ h;omega
  | succ n l=>
   intro i t u
   simp only[ie,in0,gf,k]
   by_cases b:i < a.At.length
   ·have c1:decide ((i:Int) < (a.At.length:Int))=true:=decide_eq_true MB
    rw[ho b]
    simp only[c1,if_true,an b,gf,wr1 i MB,l (i+1) MB MB]
    by_cases c:i < a.Consts.length
    ·have c2:decide ((a.Consts.length:Int)≤(i:Int))=false:=decide_eq_false MB
     rw[ho c,jG]
     by_cases m:a.At[i] < 0
     ·simp[show ¬ a.Consts.length≤i by omega,show ¬ 0≤a.At[i] by omega]
     ·by_cases h1:(f.Fields.length:Int)≤a.At[i]
      ·simp[show ¬ a.Consts.length≤i by omega,show 0≤a.At[i] by omega,show ¬ a.At[i]≤(f.Fields.length:Int) - 1 by omega,show ¬ a.At[i] < (f.Fields.length:Int) by omega]
      ·obtain⟨j,d⟩:∃ j:Nat,a.At[i]=(j:Int):=⟨a.At[i].toNat,MB⟩
       have e:j < f.Fields.length:=by omega
       rw[d]
       rw[d] at m h1
       have o:(j:Int)≤(f.Fields.length:Int) - 1:=by omega
       have p:(0:Int)≤(j:Int):=by omega
       simp only[p,o,decide_true,Bool.and_self,hA,c2,decide_false,gh,if_false,gf,an e,an c,hP,Option.some.injEq]
       by_cases he:f.Fields[j]=a.Consts[i] <;> simp[he,e]
    ·have c2:decide ((a.Consts.length:Int)≤(i:Int))=true:=decide_eq_true MB
     rw[hy (show a.Consts.length≤i by omega),jG]
     simp[show a.Consts.length≤i by omega]
   ·have c1:decide ((i:Int) < (a.At.length:Int))=false:=decide_eq_false MB
    rw[hy (show a.At.length≤i by omega)]
    simp only[c1,gh,if_false,jG]
 have g:=lp N 0 MB MB
 rw[hE,hE,show ((0:Nat):Int)=0 from rfl] at g
 unfold oR fH
 rw[g]
 have hk:seq a.Kind f.Kind=seq f.Kind a.Kind:=by rw[kA,kA];simp[eq_comm]
 rw[hk]
 have q:decide (a.N=(f.Fields.length:Int))=decide ((f.Fields.length:Int)=a.N):=by rw[decide_eq_decide];exact eq_comm
 rw[q]
 cases seq f.Kind a.Kind <;> cases decide ((f.Fields.length:Int)=a.N) <;> simp
theorem sB {xs:List aw} {id:Int}:∀ (ps:List au) (row:List Int) (l:List aq),(df xs (ps.take (row.length+1)) (row++[id]) l).2=true→∃ p,ps[row.length]?=some p∧fH (bb p) (aK xs id).1=true
 | [],row,l,h=>by
  cases row <;> simp[df] at h
 | p :: ps,[],l,h=>by
  simp only[ha,ht,y2,hB,df] at h
  split at h
  ·rename_i a
   exact⟨p,rfl,AF a.2⟩
  ·cases h
 | p :: ps,v :: row,l,h=>by
  simp only[gx,y2,hW,df] at h
  split at h
  ·have:=sB ps row _ h
   simpa using this
  ·cases h
theorem Eo {xs:List aw} {ps:List au} {row:List Int} {id:Int} {p:au} (hp:ps[row.length]?=some p) (h:fH (bb p) (aK xs id).1=false):kx xs ps row id=[]:=by
 unfold kx
 rw[if_neg]
 intro hk
 unfold okB at hk
 rw[hd,gx,ha,ht] at hk
 obtain⟨q,a,b⟩:=sB ps row [] hk
 rw[hp] at a
 cases a
 rw[h] at b
 cases b
theorem Jm {N:Nat} (p:1099000000000≤N) (r:ai) (c:aR) (m:aI) (at_:Int) (s:ag) (id:Int) (l:List Bool) (row:aP) (n:SzS r s) (q:(pos r.Pats).length=af r.Pats) (v:idx m.Rules at_=some row) (ok:Ce m.Alphas r c row)
  (w:∀ L,row.Levels[row.Levels.length - 1]?=some L→∀ t∈L.Toks,∀ x∈t.Hits,InR x)
  (y:∀ k,k < row.Levels.length→∃ a i b,idx c.Pos (k:Int)=some a∧idx m.Alphas a=some i∧idx l a=some b∧(b=false→∀ row:List Int,row.length=k→kx s.Items (pos r.Pats) row id=[])) :
  ng N r c m at_ s id (aK s.Items id).1 l=some ⟨m.Alphas,m.Rules.set at_.toNat ⟨(oL s.Items m.Alphas (aK s.Items id).1 id r c row).Levels⟩⟩:=by
 have z:=ok.ne
 have A:=ok.ll
 have F:=n.pl
 have G:=dp r.Pats
 have B:IntKind.i64.wrap ((row.Levels.length:Int) - 1)=((row.Levels.length - 1:Nat):Int):=by
  rw[show ((row.Levels.length:Int) - 1)=((row.Levels.length - 1:Nat):Int) by omega]
  exact wr MB MB
 have o:row.Levels.length - 1 < row.Levels.length:=by omega
 have d:row.Levels[row.Levels.length - 1]?=some row.Levels[row.Levels.length - 1]:=hh o
 have hlen:(row.Levels[row.Levels.length - 1]).Toks.length≤4294967296:=wN ok.fit _ (hQ.2 ⟨_,hz o,rfl⟩)
 have C:=C7 (M:=jV s.Items (pos r.Pats) (neg r.Pats) (aK s.Items id).1 1 (row.Levels[row.Levels.length - 1]).Toks) d (vK _)
 unfold ng
 rw[v,gf,B,an o,gf,FN p r s n _ 1 (Or.inl rfl) _ hlen (fun t g=>⟨by have:=ok.ids _ _ d t g;omega,ok.hit _ d t g,w _ d t g⟩),gf,hX]
 have h1:=DN p r s n c m at_ id l row A z q (ue m.Alphas c) ok.al
  (fun k hk=>by
   obtain⟨a,i,b,h1,h,D,E⟩:=y k hk
   exact⟨a,i,b,h1,h,vY h1 h,D,E⟩)
  (row.Levels.set (row.Levels.length - 1) ⟨jV s.Items (pos r.Pats) (neg r.Pats) (aK s.Items id).1 1 (row.Levels[row.Levels.length - 1]).Toks⟩) N [] [] [] (by rw[oj];omega) MC (fun e=>absurd rfl e) (fun _=>⟨rfl,rfl⟩) MC MC
  (fun i L j t g=>by
   rw[ha,ht,Nat.add_comm]
   rw[y3] at j
   split at j
   ·rename_i e;subst e
    ·simp only[Option.some.injEq] at j
     subst j
     have h1:=vF (xs:=s.Items) (ps:=pos r.Pats) (ns:=neg r.Pats) (f:=(aK s.Items id).1) (b:=1) (row.Levels[row.Levels.length - 1]).Toks
     have h:t.Ids∈(row.Levels[row.Levels.length - 1]).Toks.map (·.Ids):=by rw[← h1];exact hQ.2 ⟨t,g,rfl⟩
     obtain⟨u,hu,e⟩:=hQ.1 h
     rw[← e];exact ok.ids _ _ d u hu
   ·exact ok.ids i L j t g)
  MC (by rw[C];exact ok.fit)
 simp only[hB,ha,nn] at h1
 have h:br N r c m at_ s id l row N (row.Levels.set (row.Levels.length - 1) ⟨jV s.Items (pos r.Pats) (neg r.Pats) (aK s.Items id).1 1 (row.Levels[row.Levels.length - 1]).Toks⟩) [] 0=_:=h1
 rw[h]
 unfold oL fN
 rw[d]
theorem DU {N:Nat} (y:1099000000000≤N) (d:bo) (n:bO) (s:ag) (id:Int) (b:Bool) (as:List bm) (v:List Bool) (z:d.Rules.length≤1048576) :
  ∀ (ws:List aP) (f:List ai) (cs:List aR) (k:Nat) (g:List ai) (h:List aR) (e:List aP),ws.length < k→d.Rules=g++f→n.Chains=h++cs→g.length=e.length→h.length=e.length→f.length=ws.length→cs.length=ws.length →
   (∀ (i:Nat) (r:ai) (c:aR) (w:aP),f[i]?=some r→cs[i]?=some c→ws[i]?=some w→SzS r s∧(pos r.Pats).length=af r.Pats∧Ce as r c w∧(∀ L,w.Levels[w.Levels.length - 1]?=some L→∀ t∈L.Toks,∀ x∈t.Hits,InR x) ∧
    ∀ k,k < w.Levels.length→∃ a i b,idx c.Pos (k:Int)=some a∧idx as a=some i∧idx v a=some b∧(b=false→∀ row:List Int,row.length=k→kx s.Items (pos r.Pats) row id=[])) →
   gj N d n s id ((aK s.Items id).1,b) as v k (e++ws) (e.length:Int)=some ⟨as,e++o4 (oL s.Items as (aK s.Items id).1 id) f cs ws⟩
 | [],f,cs,k,g,h,e,hk,h1,o,l,p,m,q,u=>by
  obtain⟨k,rfl⟩:∃ j,k=j+1:=⟨k - 1,by simp at hk;omega⟩
  have A:f=[]:=rv.1 m
  subst A
  have c1:decide ((e.length:Int) < (d.Rules.length:Int))=false:=decide_eq_false (by rw[h1,← l];simp)
  simp only[gj,c1,gh,if_false,o4]
 | w :: ws,[],cs,k,g,h,e,hk,h1,o,l,p,m,q,u=>by simp at m
 | w :: ws,r :: f,[],k,g,h,e,hk,h1,o,l,p,m,q,u=>by simp at q
 | w :: ws,r :: f,c :: cs,k,g,h,e,hk,h1,o,l,p,m,q,u=>by
  obtain⟨k,rfl⟩:∃ j,k=j+1:=⟨k - 1,MB⟩
  simp only[gx] at hk m q
  have O:d.Rules.length=e.length+(f.length+1):=by rw[h1,← l];simp
  have c1:decide ((e.length:Int) < (d.Rules.length:Int))=true:=decide_eq_true MB
  obtain⟨B,C,D,E,F⟩:=u 0 r c w rfl rfl rfl
  have G:idx d.Rules (e.length:Int)=some r:=by rw[h1,← l];exact dI _ _ _
  have H:idx n.Chains (e.length:Int)=some c:=by rw[o,← p];exact dI _ _ _
  simp only[gj,c1,if_true,gf,G,H]
  rw[Jm y r c ⟨as,e++w :: ws⟩ (e.length:Int) s id v w B C (dI _ _ _) D E F]
  simp only[gf,hX,kt,wr1 e.length MB]
  have:=DU y d n s id b as v z ws f cs k (g++[r]) (h++[c]) (e++[⟨(oL s.Items as (aK s.Items id).1 id r c w).Levels⟩]) MB (by rw[h1];simp) (by rw[o];simp) (by simp[l]) (by simp[p]) MB MB
   (fun i I K w' M a2 a3=>u (i+1) I K w' (by simpa using M) (by simpa using a2) (by simpa using a3))
  simp only[hd,gx,ha,ht] at this
  rw[this,gk]
  rfl
theorem E4 {N:Nat} (p:1099000000000≤N) (d:bo) (n:bO) (m:aI) (s:ag) (id:Int) (f:aH × Bool) (q:∀ a∈n.Alphas,a.At.length≤1048576) (t:n.Alphas.length≤1048576) (r:f.1.Fields.length≤1048576) :
  ∀ (as:List ax) (k:Nat) (b:List ax) (c is:List bm),as.length < k→n.Alphas=b++as→c.length=b.length→is.length=as.length→(∀ i∈is,i.L.length+1≤4294967296) →
   eQ N d n m s id f k (c++is) (b.map fun a=>fH a f.1) (b.length:Int)=gj N d n s id f (c++cF f.1 id as is) (n.Alphas.map fun a=>fH a f.1) N m.Rules 0
 | [],k,b,c,is,hk,h1,g,l,o=>by
  obtain⟨k,rfl⟩:∃ j,k=j+1:=⟨k - 1,by simp at hk;omega⟩
  have c1:decide ((b.length:Int) < (n.Alphas.length:Int))=false:=decide_eq_false (by rw[h1];simp)
  have e:n.Alphas=b:=by rw[h1];simp
  simp only[eQ,c1,gh,if_false,cF]
  rw[e]
 | a :: as,k,b,c,[],hk,h1,g,l,o=>by simp at l
 | a :: as,k,b,c,i :: is,hk,h1,g,l,o=>by
  obtain⟨k,rfl⟩:∃ j,k=j+1:=⟨k - 1,MB⟩
  simp only[gx] at hk l
  have B:n.Alphas.length=b.length+(as.length+1):=by rw[h1];simp
  have c1:decide ((b.length:Int) < (n.Alphas.length:Int))=true:=decide_eq_true MB
  have u:idx n.Alphas (b.length:Int)=some a:=by rw[h1];exact dI _ _ _
  have v:idx (c++i :: is) (b.length:Int)=some i:=by rw[← g];exact dI _ _ _
  have w:a∈n.Alphas:=by rw[h1];simp
  have x:=o i MC
  have h:=fun y=>E4 p d n m s id f q t r as k (b++[a]) (c++[y]) is MB (by rw[h1];simp) (by simp[g]) MB (fun j z=>o j (by simp[z]))
  simp only[hd,gx,ha,ht,gk,hW,hB,px,hS,q2] at h
  simp only[eQ,c1,if_true,u,gf,Gi p a f.1 (q a w) r,wr1 b.length MB,cF,bD (show (b.map fun a=>fH a f.1).length+[fH a f.1].length≤4294967296 by simp;omega)]
  cases hp:fH a f.1 with
  | true=>
   rw[hp] at h
   simp only[if_true,v,gf,bD (show i.L.length+[id].length≤4294967296 by simpa using x)]
   have A:(c++i :: is).set ((b.length:Int)).toNat (⟨i.L++[id]⟩:bm)=c++⟨i.L++[id]⟩ :: is:=by
    rw[hX,← g,kt,gk];rfl
   rw[A]
   exact h _
  | false=>
   rw[hp] at h
   simp only[gh,if_false]
   exact h i
theorem pX {f:aH} {id:Int}:∀ (as:List ax) (is:List bm),(cF f id as is).length=is.length
 | [],is=>by simp[cF]
 | a :: as,[]=>by simp[cF]
 | a :: as,i :: is=>by simp[cF,pX as is]
structure FI (d:bo) (n:bO) (m:aI) (s:ag) (id:Int):Prop where
 ok:J9 d n m s id
 ats:Ats n.Alphas n.Chains d.Rules
 rows:∀ (i:Nat) (r:ai) (w:aP),d.Rules[i]?=some r→m.Rules[i]?=some w→SzS r s∧(pos r.Pats).length=af r.Pats∧∀ L,w.Levels[w.Levels.length - 1]?=some L→∀ t∈L.Toks,∀ x∈t.Hits,InR x
theorem Jd {N:Nat} (b:1099000000000≤N) (d:bo) (n:bO) (m:aI) (s:ag) (id:Int) (h:FI d n m s id):mR N d n m s id=some (zg d n m s id):=by
 have H:=h.ok.al
 have I:=h.ok.rl
 have K:=h.ok.ld
 have p:=h.ok.la
 unfold mR
 rw[y6 b s id h.ok.sl h.ok.fl,gf]
 have h1:=E4 b d n m s id (aK s.Items id) h.ok.at_ h.ok.al (CS h.ok.fl id) n.Alphas N [] [] m.Alphas MB rfl rfl h.ok.la h.ok.il
 simp only[hB,ha,nn,q2] at h1
 have t:eQ N d n m s id (aK s.Items id) N m.Alphas [] 0=_:=h1
 rw[t]
 have j:=DU b d n s id (aK s.Items id).2 (cF (aK s.Items id).1 id n.Alphas m.Alphas) (n.Alphas.map fun a=>fH a (aK s.Items id).1) MB m.Rules d.Rules n.Chains N [] [] [] MB rfl rfl rfl rfl h.ok.ld h.ok.lc
  (fun i r c w g1 g2 g3=>by
   obtain⟨L,l⟩:=h.ok.rows i r c w g1 g2 g3
   obtain⟨u,v,x⟩:=h.rows i r w g1 g3
   refine⟨u,v,l,x,fun k hk=>?_⟩
   obtain⟨y,z⟩:=hn.1 g1
   obtain⟨A,B⟩:=hn.1 g2
   have f:=(h.ats.get i A y).1
   rw[B,z] at f
   have g:k < (pos r.Pats).length:=by rw[← l.ll];exact hk
   have o:k < c.Pos.length:=by rw[f.len];exact g
   have C:=f.get k o g
   obtain⟨a0,M,e⟩:=aa C
   have D:c.Pos[k].toNat < (cF (aK s.Items id).1 id n.Alphas m.Alphas).length:=by
    rw[pX,p]
    obtain⟨q,_⟩:=hn.1 e
    exact q
   have E:c.Pos[k]=((c.Pos[k].toNat:Nat):Int):=by omega
   refine⟨c.Pos[k],_,fH (bb (pos r.Pats)[k]) (aK s.Items id).1,an o,by rw[E];exact an D,?_,fun F row G=>?_⟩
   ·have:(n.Alphas.map fun a=>fH a (aK s.Items id).1)[c.Pos[k].toNat]?=some (fH (bb (pos r.Pats)[k]) (aK s.Items id).1):=by
     rw[p4,e];rfl
    unfold idx
    rw[if_pos a0]
    exact this
   ·exact Eo (by rw[G];exact hh g) F)
 simp only[hB,ha,nn] at j
 exact j
def qH (c:aR):aP:=⟨List.replicate c.Pos.length ⟨[]⟩⟩
def jP (p:bO):aI:=⟨List.replicate p.Alphas.length ⟨[]⟩,p.Chains.map qH⟩
theorem H9 {N:Nat} (b:1099000000000≤N) (p:bO) (f:p.Alphas.length≤1048576) (d:p.Chains.length≤1048576) (hp:∀ c∈p.Chains,c.Pos.length≤1048576):pJ N p=some (jP p):=by
 unfold pJ jP
 rw[Cj _ MB,gf]
 refine (lp' b p.Chains MB (fun n (u:List aP) i=>ic N p (List.replicate p.Alphas.length ⟨[]⟩) n u i) (fun t u=>some ⟨List.replicate p.Alphas.length ⟨[]⟩,u++t.map qH⟩) (fun u t=>u.length+t.length≤1048576) [] (by simpa using d) (fun n u i c t g1 g2 g3 g4 g5 g6 a e=>?_) (fun n u i g1 g2 a=>?_)).trans MC
 ·simp only[gx] at a
  have hm:=hp c g2
  simp only[ic,g5,if_true,g4,gf,Cj _ (show c.Pos.length≤4294967296 by omega),bD (show u.length+[(⟨List.replicate c.Pos.length ⟨[]⟩⟩:aP)].length≤4294967296 by simp;omega),g6]
  rw[e _ (by simp;omega)];simp[qH]
 ·simp only[ic,g2,gh,if_false];simp
def Eg (ps ns:List au) (i:Nat) (t:ah):Prop:=t.Ids.length=i+1∧t.Hits.length≤ns.length∧(i+1=ps.length→t.Hits.length=ns.length∧∀ x∈t.Hits,InR x)
def Jl (ps ns:List au) (j i:Nat) (L:ao):Prop:=L.Toks.length≤j*100 ^ i∧∀ t∈L.Toks,Eg ps ns i t
def CP (r:ai) (j:Nat) (w:aP):Prop:=w.Levels.length=(pos r.Pats).length∧∀ i L,w.Levels[i]?=some L→Jl (pos r.Pats) (neg r.Pats) j i L
theorem EW {xs:List aw} {ps ns:List au} {row:List Int} {id:Int} (c:xs.length≤1048576):∀ t∈nh xs ps ns row id,Eg ps ns row.length t:=by
 intro t a
 unfold nh at a
 split at a
 ·simp only[hZ] at a
  subst a
  refine⟨MC,?_,fun e=>?_⟩
  ·simp only
   split
   ·simp[gD]
   ·simp
  ·simp only[e,if_true]
   refine⟨by simp[gD],fun x b=>?_⟩
   unfold gD at b
   obtain⟨p,_,rfl⟩:=hQ.1 b
   have:=Af p (okB xs ps (row++[id])).1 xs
   exact wr MB MB
 ·cases a
theorem vt {xs:List aw} {ps ns:List au} {row ids:List Int} (b:xs.length≤1048576):∀ t∈fM xs ps ns row ids,Eg ps ns row.length t:=by
 intro t a
 unfold fM at a
 obtain⟨v,_,h⟩:=j5.1 a
 exact EW b t h
theorem zy {xs:List aw} {ps ns:List au} {id:Int} {k:Nat} {B F:List ah} {A:List Int} (b:xs.length≤1048576) (c:∀ t∈B,t.Ids.length=k) (d:∀ t∈F,t.Ids.length=k):∀ t∈iA xs ps ns id k B F A,Eg ps ns k t:=by
 intro t a
 unfold iA at a
 split at a
 ·rename_i e
  subst e
  exact vt b t a
 ·rcases gb.1 a with a | a
  ·obtain⟨u,hu,h⟩:=j5.1 a
   have:=vt b t h
   rwa [c u hu] at this
  ·obtain⟨u,hu,h⟩:=j5.1 a
   have:=vt b t h
   rwa [d u hu] at this
theorem Bp {j k b f a:Nat} (d:j≤40) (g:a≤41) (h:k≠0→b≤j*100 ^ (k - 1)∧f≤100 ^ (k - 1)):(if k=0 then 1 else b+f*a)≤100 ^ k:=by
 split
 ·rename_i e;subst e;exact hN _
 ·rename_i e
  obtain⟨k,rfl⟩:∃ m,k=m+1:=⟨k - 1,MB⟩
  obtain⟨h1,c⟩:=h e
  simp only[Nat.add_sub_cancel] at h1 c
  have i:f*a≤100 ^ k*41:=Nat.mul_le_mul c g
  have l:j*100 ^ k≤40*100 ^ k:=Nat.mul_le_mul_right _ d
  rw[Nat.pow_succ]
  omega
theorem zJ {xs:List aw} {ps ns:List au} {id:Int} {A:Nat→List Int} {j:Nat} (c:j≤40) (d:∀ k,(A k).length≤41) (e:xs.length≤1048576):∀ (ls:List ao) (k:Nat) (B F:List ah),(k≠0→B.length≤j*100 ^ (k - 1)∧F.length≤100 ^ (k - 1))→(∀ t∈B,t.Ids.length=k)→(∀ t∈F,t.Ids.length=k) →
  (∀ i L,ls[i]?=some L→Jl ps ns j (k+i) L)→(lm xs ps ns id A k ls B F).length=ls.length∧∀ i L,(lm xs ps ns id A k ls B F)[i]?=some L→Jl ps ns (j+1) (k+i) L
 | [],k,B,F,h1,f,g,a=>⟨rfl,fun i L h=>by simp[lm] at h⟩
 | M :: Ls,k,B,F,h1,f,g,a=>by
  have hm:=Nat.le_trans (vI xs ps ns id k B F (A k)) (Bp c (d k) h1)
  have l:=zy (xs:=xs) (ps:=ps) (ns:=ns) (id:=id) (A:=A k) e f g
  have o:=a 0 M rfl
  obtain⟨m,b⟩:=o
  simp only[q0] at m b
  have n:=zJ (xs:=xs) (ps:=ps) (ns:=ns) (id:=id) (A:=A) c d e Ls (k+1) M.Toks (iA xs ps ns id k B F (A k)) (fun _=>⟨by simpa using m,by simpa using hm⟩) (fun t h=>(b t h).1) (fun t h=>(l t h).1) (fun i L h=>by
   have:=a (i+1) L (by simpa using h)
   rwa [show k+(i+1)=k+1+i by omega] at this)
  unfold lm
  refine⟨by simp[n.1],fun i L h=>?_⟩
  cases i with
  | zero=>
   simp only[List.getElem?_cons_zero,Option.some.injEq] at h
   subst h
   refine⟨?_,fun t h=>?_⟩
   ·simp only[hd,q0,hI];omega
   ·rcases gb.1 h with h | h
    ·exact b t h
    ·exact l t h
  | succ i=>
   have:=n.2 i L (by simpa using h)
   rwa [show k+1+i=k+(i+1) by omega] at this
theorem IL (n:Int):InR (IntKind.i64.wrap n):=by
 have a:(2:Int) ^ 64=18446744073709551616:=by decide
 have b:(2:Int) ^ (64 - 1)=9223372036854775808:=by decide
 unfold InR
 apply wr
 ·simp only[IntKind.wrap,IntKind.bits,IntKind.signed,a,b,hK,decide_eq_true_eq]
  split <;> omega
 ·simp only[IntKind.wrap,IntKind.bits,IntKind.signed,a,b,hK,decide_eq_true_eq]
  split <;> omega
theorem BO {f:aH} {l:List aq} {b:Int}:∀ (ns:List au) (h:List Int),(∀ x∈h,InR x)→∀ x∈lI f l b ns h,InR x
 | p :: ns,y :: h,c,x,a=>by
  unfold lI at a
  rcases hC.1 a with rfl | a
  ·split
   ·exact IL _
   ·exact c y MC
  ·exact BO ns h (fun z d=>c z (by simp[d])) x a
 | [],h,c,x,a=>by
  have:lI f l b [] h=h:=by cases h <;> rfl
  rw[this] at a;exact c x a
 | p :: ns,[],c,x,a=>by simp[lI] at a
theorem EZ {xs:List aw} {ps ns:List au} {f:aH} {b:Int} {i:Nat} {c:List ah} (h:∀ t∈c,Eg ps ns i t):∀ t∈jV xs ps ns f b c,Eg ps ns i t:=by
 intro t d
 unfold jV at d
 obtain⟨u,hu,rfl⟩:=hQ.1 d
 obtain⟨h1,g,a⟩:=h u hu
 split
 ·exact⟨h1,by simp only[vV];exact g,fun e=>⟨by simp only[vV];exact (a e).1,BO _ _ (a e).2⟩⟩
 ·exact⟨h1,g,a⟩
theorem uC {xs:List aw} {r:ai} {f:aH} {b:Int} {j:Nat} {w:aP} (h:CP r j w):CP r j (fN xs (pos r.Pats) (neg r.Pats) f b w):=by
 obtain⟨h1,d⟩:=h
 unfold fN
 split
 ·rename_i L g
  refine⟨by simpa using h1,fun i M c=>?_⟩
  simp only at c
  rw[y3] at c
  split at c
  ·rename_i e
   split at c
   ·simp only[Option.some.injEq] at c
    subst c
    subst e
    obtain⟨a,b⟩:=d _ L g
    exact⟨by simpa[vK] using a,EZ b⟩
   ·cases c
  ·exact d i M c
 ·exact⟨h1,d⟩
theorem y7 {as:List bm} {B:Nat} (h:∀ i∈as,i.L.length≤B) (c:aR) (k:Nat):(ue as c k).length≤B:=by
 unfold ue
 split
 ·split
  ·rename_i i a
   obtain⟨_,_,e⟩:=aa a
   exact h i (jt e)
  ·simp
 ·simp
theorem EL {xs:List aw} {as:List bm} {f:aH} {id:Int} {r:ai} {c:aR} {j:Nat} {w:aP} (a:j≤40) (d:∀ i∈as,i.L.length≤41) (g:xs.length≤1048576) (h:CP r j w):CP r (j+1) (oL xs as f id r c w):=by
 obtain⟨h1,k⟩:=uC (xs:=xs) (f:=f) (b:=1) h
 have:=zJ (xs:=xs) (ps:=pos r.Pats) (ns:=neg r.Pats) (id:=id) (A:=ue as c) a (y7 d c) g (fN xs (pos r.Pats) (neg r.Pats) f 1 w).Levels 0 [] [] (fun e=>absurd rfl e) MC MC (fun i L h=>by rw[ht];exact k i L h)
 unfold oL
 exact⟨by rw[this.1];exact h1,fun i L h=>by have:=this.2 i L h;rwa [ht] at this⟩
theorem DE {A:Nat→Nat} {j:Nat} (a:j≤40) (d:∀ k,A k≤41):∀ (ls:List Nat) (k b f:Nat),(k≠0→b≤j*100 ^ (k - 1)∧f≤100 ^ (k - 1))→(∀ i l,ls[i]?=some l→l≤j*100 ^ (k+i))→k+ls.length≤4→uY A k ls b f
 | [],k,b,f,h1,c,e=>trivial
 | l :: ls,k,b,f,h1,c,e=>by
  simp only[gx] at e
  have hm:=Bp a (d k) h1
  have g:=c 0 l rfl
  rw[q0] at g
  have hp:100 ^ k≤1000000:=by
   have:100 ^ k≤100 ^ 3:=Nat.pow_le_pow_right MB MB
   simpa using this
  have m:j*100 ^ k≤40*1000000:=Nat.mul_le_mul a hp
  refine⟨MB,DE a d ls (k+1) l _ (fun _=>⟨by simpa using g,by simpa using hm⟩) (fun i l' h=>?_) MB⟩
  have:=c (i+1) l' (by simpa using h)
  rwa [show k+(i+1)=k+1+i by omega] at this
theorem ur {g:ai→aR→aP→aP}:∀ (d:List ai) (cs:List aR) (ws:List aP),d.length=ws.length→cs.length=ws.length→(o4 g d cs ws).length=ws.length∧∀ (i:Nat) (v:aP),(o4 g d cs ws)[i]?=some v→∃ (r:ai) (c:aR) (w:aP),d[i]?=some r∧cs[i]?=some c∧ws[i]?=some w∧v=g r c w
 | [],cs,[],_,_=>⟨by simp[o4],fun i v h=>by simp[o4] at h⟩
 | r :: d,[],w :: ws,_,h=>by simp at h
 | r :: d,c :: cs,w :: ws,h1,f=>by
  have e:=ur (g:=g) d cs ws (by simpa using h1) (by simpa using f)
  unfold o4
  refine⟨by simp[e.1],fun i v h=>?_⟩
  cases i with
  | zero=>exact⟨r,c,w,rfl,rfl,rfl,by simpa using h.symm⟩
  | succ i=>
   obtain⟨a,b,j,k,l,m,n⟩:=e.2 i v (by simpa using h)
   exact⟨a,b,j,by simpa using k,by simpa using l,by simpa using m,n⟩
theorem sJ {f:aH} {id:Int} {B:Nat}:∀ (as:List ax) (is:List bm),(∀ i∈is,i.L.length≤B)→∀ i∈cF f id as is,i.L.length≤B+1
 | [],is,h,i,b=>by
  have:cF f id [] is=is:=by cases is <;> rfl
  rw[this] at b
  have:=h i b;omega
 | a :: as,[],h,i,b=>by simp[cF] at b
 | a :: as,y :: is,h,i,b=>by
  unfold cF at b
  rcases hC.1 b with rfl | b
  ·have:=h y MC
   split
   ·simpa using this
   ·omega
  ·exact sJ as is (fun z c=>h z (by simp[c])) i b
structure sj (d:bo) (n:bO) (j:Nat) (m:aI):Prop where
 la:m.Alphas.length=n.Alphas.length
 lr:m.Rules.length=d.Rules.length
 al:∀ i∈m.Alphas,i.L.length≤j
 rows:∀ (i:Nat) (r:ai) (w:aP),d.Rules[i]?=some r→m.Rules[i]?=some w→CP r j w
theorem vp {d:bo} {n:bO} {m:aI} {s:ag} {id:Int} {j:Nat} (k:j≤40) (l:s.Items.length≤1048576) (o:n.Chains.length=d.Rules.length) (h:sj d n j m):sj d n (j+1) (zg d n m s id):=by
 have h1:=sJ (f:=(aK s.Items id).1) (id:=id) n.Alphas m.Alphas h.al
 have a:=ur (g:=oL s.Items (cF (aK s.Items id).1 id n.Alphas m.Alphas) (aK s.Items id).1 id) d.Rules n.Chains m.Rules h.lr.symm (by rw[o,h.lr])
 refine⟨?_,?_,h1,?_⟩
 ·show (cF _ _ _ _).length=_
  rw[pX];exact h.la
 ·show (o4 _ _ _ _).length=_
  rw[a.1];exact h.lr
 ·intro i r v b p
  obtain⟨t,c,w,e,a2,a3,rfl⟩:=a.2 i v p
  rw[b] at e
  cases e
  exact EL k (fun y q=>by have:=h1 y q;omega) l (h.rows i r w b a3)
theorem xO {d:bo} {n:bO} (h:Ats n.Alphas n.Chains d.Rules):sj d n 0 (jP n):=by
 unfold jP
 refine⟨MC,by simp[h.len],fun i a=>?_,fun i r w l f=>?_⟩
 ·rw[(List.mem_replicate.1 a).2];simp
 ·simp only[p4,vy] at f
  obtain⟨c,b,rfl⟩:=f
  obtain⟨a,m⟩:=hn.1 l
  obtain⟨o,b⟩:=hn.1 b
  have g:=(h.get i o a).1
  rw[b,m] at g
  refine⟨by simp only[qH,List.length_replicate];exact g.len,fun k L j=>?_⟩
  simp only[qH] at j
  obtain⟨_,e⟩:=hn.1 j
  rw[List.getElem_replicate] at e
  subst e
  exact⟨MC,MC⟩
theorem xm {d:bo} {m:aI} {s:ag} {id:Int} {j:Nat} (C:lh d=true) (D:uM d) (hs:s.Items.length≤40) (E:∀ x∈s.Items,x.F.Fields.length≤1048576) (Q:j≤40) (h:sj d (cc d) j m):FI d (cc d) m s id:=by
 have F:=te C
 obtain⟨_,v,ae⟩:=rf F
 obtain⟨⟨R,z2⟩,z3,z4⟩:=uQ F
 have S:=sJ (f:=(aK s.Items id).1) (id:=id) (cc d).Alphas m.Alphas h.al
 have G:∀ i∈cF (aK s.Items id).1 id (cc d).Alphas m.Alphas,i.L.length≤41:=fun i g=>by have:=S i g;omega
 have T:d.Rules.length≤1048576:=D.2.1
 have n:∀ r∈d.Rules,r.Pats.length≤6∧1≤(pos r.Pats).length∧(pos r.Pats).length≤3∧(pos r.Pats).length=af r.Pats∧pos r.Pats=r.Pats.take (af r.Pats)∧dT r.Pats≤1048576∧∀ p∈r.Pats,p.Args.length≤1048576:=fun r n=>by
  have y:=mz C r n
  have hp:gK r.Pats=true:=by
   unfold im at y
   simp only[gI] at y
   exact y.2.2.1
  have U:=BB hp
  have V:(pos r.Pats).length=af r.Pats:=pE r.Pats
  unfold gK at hp
  simp only[gI,decide_eq_true_eq] at hp
  obtain⟨⟨_,W⟩,⟨p2,p3⟩,_⟩:=hp
  obtain⟨_,⟨_,g1⟩,_,_,g2,_⟩:=D.2.2 r n
  exact⟨W,MB,MB,V,U,g2,fun p hp=>(g1 p hp).2.1⟩
 have H:∀ (i:Nat) (r:ai),d.Rules[i]?=some r→r∈d.Rules:=fun i r e=>jt e
 refine⟨⟨MB,E,fun a X=>(z2 a X).2,R,by rw[h.lr];exact T,h.la,by rw[v.len,h.lr],h.lr.symm,fun i g=>by have:=h.al i g;omega,fun i r c w g1 g2 g3=>?_⟩,v,fun i r w g1 g3=>?_⟩
 ·obtain⟨Y,Z,q3,I,K,z,A⟩:=n r (H i r g1)
  obtain⟨M,o⟩:=h.rows i r w g1 g3
  refine⟨⟨MB,z,A⟩,⟨MB,M,fun i L b t u=>((o i L b).2 t u).1,fun L b t u=>(((o _ L b).2 t u).2.2 MB).1,fun k hk=>?_,?_,fun k=>by have:=y7 G c k;omega⟩⟩
  ·obtain⟨g,a6⟩:=hn.1 g1
   obtain⟨a7,a8⟩:=hn.1 g2
   have B:=(v.get i a7 g).1
   rw[a8,a6] at B
   have N:k < (pos r.Pats).length:=by omega
   have O:k < c.Pos.length:=by rw[B.len];exact N
   have e1:=B.get k O N
   obtain⟨a0,a1,e⟩:=aa e1
   obtain⟨q,_⟩:=hn.1 e
   have ab:c.Pos[k].toNat < (cF (aK s.Items id).1 id (cc d).Alphas m.Alphas).length:=by rw[pX,h.la];exact q
   have ad:c.Pos[k]=((c.Pos[k].toNat:Nat):Int):=by omega
   exact⟨c.Pos[k],_,an O,by rw[ad];exact an ab⟩
  ·refine DE Q (y7 G c) _ 0 0 0 (fun e=>absurd rfl e) (fun i l P=>?_) (by simp;omega)
   rw[p4,vy] at P
   obtain⟨L,b,rfl⟩:=P
   rw[ht]
   exact (o i L b).1
 ·obtain⟨Y,Z,q3,I,K,z,A⟩:=n r (H i r g1)
  obtain⟨M,o⟩:=h.rows i r w g1 g3
  exact⟨⟨MB,z,A,MB,E,K⟩,I,fun L b t u=>(((o _ L b).2 t u).2.2 MB).2⟩
theorem I5 {N:Nat} (p:bO) (b:List aP) (a:Nat) (K:List aP→Int→Option aI) (c:a < p.Chains.length) (f:p.Chains[a].Pos.length≤1048576) (g:b.length≤a) (j:p.Chains.length≤1048576):∀ (n i:Nat),i≤p.Chains[a].Pos.length→p.Chains[a].Pos.length - i < n →
  ju N p b a K n (List.replicate i ⟨[]⟩) i=K (b++[qH p.Chains[a]]) ((a+1:Nat):Int):=by
 intro n
 induction n with
 | zero=>intro i _ h;omega
 | succ n d=>
  intro i k l
  simp only[ju,an c,gf]
  by_cases m:i < p.Chains[a].Pos.length
  ·have c1:decide ((i:Int) < (p.Chains[a].Pos.length:Int))=true:=decide_eq_true MB
   simp only[c1,if_true,bD (show (List.replicate i (⟨[]⟩:ao)).length+[(⟨[]⟩:ao)].length≤4294967296 by simp;omega),gf,wr1 i MB]
   have:=d (i+1) MB MB
   rw[MK] at this
   exact this
  ·have c1:decide ((i:Int) < (p.Chains[a].Pos.length:Int))=false:=decide_eq_false MB
   have e:i=p.Chains[a].Pos.length:=by omega
   simp only[c1,gh,if_false,bD (show b.length+[(⟨List.replicate i ⟨[]⟩⟩:aP)].length≤4294967296 by simp;omega),gf,wr1 a MB]
   rw[e];rfl
theorem Ih {N:Nat} (g:1099000000000≤N) (p:bO) (as:List bm) (d:p.Chains.length≤1048576) (hp:∀ c∈p.Chains,c.Pos.length≤1048576):∀ (n i:Nat),i≤p.Chains.length→p.Chains.length - i < n →
  eX N p as n ((p.Chains.take i).map qH) i=some ⟨as,p.Chains.map qH⟩:=by
 intro n
 induction n with
 | zero=>intro i _ h;omega
 | succ n e=>
  intro i j k
  simp only[eX]
  by_cases a:i < p.Chains.length
  ·have c1:decide ((i:Int) < (p.Chains.length:Int))=true:=decide_eq_true MB
   have hm:=hp _ (hz a)
   have:=I5 (N:=N) p ((p.Chains.take i).map qH) i (eX N p as n) a hm (by simp;omega) d N 0 MB MB
   have b:=e (i+1) MB MB
   have f:(p.Chains.take (i+1)).map qH=(p.Chains.take i).map qH++[qH p.Chains[i]]:=by
    rw[List.take_succ_eq_append_getElem a,px];rfl
   rw[f] at b
   simp only[c1,if_true];rw[← b];exact this
  ·have c1:decide ((i:Int) < (p.Chains.length:Int))=false:=decide_eq_false MB
   simp only[c1,gh,if_false]
   rw[List.take_of_length_le MB]
theorem I6 {N:Nat} (p:bO) (c:p.Alphas.length≤1048576):∀ (n i:Nat),i≤p.Alphas.length→p.Alphas.length - i < n →
  jn N p n (List.replicate i ⟨[]⟩) i=eX N p (List.replicate p.Alphas.length ⟨[]⟩) N [] 0:=by
 intro n
 induction n with
 | zero=>intro i _ h;omega
 | succ n a=>
  intro i d e
  simp only[jn]
  by_cases f:i < p.Alphas.length
  ·have c1:decide ((i:Int) < (p.Alphas.length:Int))=true:=decide_eq_true MB
   simp only[c1,if_true,bD (show (List.replicate i (⟨[]⟩:bm)).length+[(⟨[]⟩:bm)].length≤4294967296 by simp;omega),gf,wr1 i MB]
   have:=a (i+1) MB MB
   rw[MK] at this
   exact this
  ·have c1:decide ((i:Int) < (p.Alphas.length:Int))=false:=decide_eq_false MB
   have b:i=p.Alphas.length:=by omega
   simp only[c1,gh,if_false]
   rw[b]
theorem B6 {N:Nat} (d:1099000000000≤N) (p:bO) (e:p.Alphas.length≤1048576) (f:p.Chains.length≤1048576) (hp:∀ c∈p.Chains,c.Pos.length≤1048576):mE N p=some (jP p):=by
 have a:=I6 (N:=N) p e N 0 MB MB
 have b:=Ih d p (List.replicate p.Alphas.length ⟨[]⟩) f hp N 0 MB MB
 unfold mE jP;exact a.trans b
def rL (f:aH):Bool:=dU f.Kind && (f.Fields.all rp && decide (f.Fields.length≤5))
def yb (f:aH):Prop:=f.Kind.size≤1048576∧f.Fields.length≤1048576∧∀ v∈f.Fields,v.S.size≤1048576
def tq (s:ag):Prop:=s.Items.length≤1048576∧∀ x∈s.Items,yb x.F
def gu (done:List aw) (v:Int):Bool:=match done.getLast? with | none=>true | some y=>decide (y.Id < v)
def kU (nx:Int):List aw→List aw→Bool
 | _,[]=>true
 | done,x :: t=>(rL x.F && (decide (1≤x.Id) && decide (x.Id < nx))) && (gu done x.Id && ((done.all fun y=>!decide (x.F=y.F)) && kU nx (done++[x]) t))
def iZ (s:ag):Bool:=(decide (1≤s.Next) && decide (s.Next≤1000000)) && (decide (s.Items.length≤40) && kU s.Next [] s.Items)
theorem BK {α:Type} {xs:List α} {i:Nat} (h:0 < i) (a:i≤xs.length):(xs.take i).getLast?=some (xs[i - 1]'MB):=by
 rw[List.getLast?_eq_getElem?,n0,Nat.min_eq_left a,List.getElem?_take_of_lt MB,hh MB]
theorem FL {N:Nat} (d:1099000000000≤N) (x y:List bi) (f:x.length≤4294967296):iE N x y=some (decide (x=y)):=by
 unfold iE
 by_cases c:x.length=y.length
 ·rw[if_neg (by simp;omega)]
  refine (rS (ee N x y) x y c MB (fun a b=>some (decide (a=b))) (fun a _ b _=>rfl) (fun k i=>by simp only[ee,hP,gf]) N 0 MB MB).trans ?_
  simp
 ·rw[if_pos (by simp;omega)]
  have : ¬ x=y:=fun e=>c (by rw[e])
  simp[this]
theorem I8 {N:Nat} (e:1099000000000≤N) (x y:aH) (f:x.Fields.length≤4294967296):lY N x y=some (decide (x=y)):=by
 unfold lY
 simp only[FL e _ _ f,gf,nK,kA]
 obtain⟨a,b⟩:=x;obtain⟨c,d⟩:=y
 simp only[aH.mk.injEq,Bool.decide_and]
def AA (xs:List aw) (f:aH):Int:=match xs.find? (fun x=>decide (x.F=f)) with | some x=>x.Id | none=>0
theorem w3 (x:aw) (xs:List aw) (f:aH):AA (x :: xs) f=if x.F=f then x.Id else AA xs f:=by
 unfold AA
 rw[K1]
 by_cases h:x.F=f <;> simp[h]
theorem Cu {N:Nat} (b:1099000000000≤N) (s:ag) (f:aH) (k:s.Items.length≤1048576) (c:∀ x∈s.Items,x.F.Fields.length≤1048576):pN N s f=some (AA s.Items f):=by
 unfold pN
 refine lp0 b s.Items MB (iP N s f) (fun t=>some (AA t f)) (fun n i x t h1 a l d e g j=>?_) (fun n i h1 a=>?_)
 ·simp only[iP,e,if_true,d,gf,I8 b x.F f (by have:=c x a;omega),g,j,w3]
  by_cases h:x.F=f <;> simp[h]
 ·simp only[iP,a,gh,if_false];rfl
end Go.Proofs.YtedmfnmbjglmbaaGreat
