/- Plain laws, one after the other: PLWent. -/
import Derived.Test.YtedmfnmbjglmbaaGreatTWentb
import Derived.Test.YtedmfnmbjglmbaaGreatPLib
import Derived.Test.YtedmfnmbjglmbaaGreatWWentMod
import Derived.Test.YtedmfnmbjglmbaaGreatWWentPur
namespace Go.Proofs.YtedmfnmbjglmbaaGreat
open Eng
set_option linter.unusedVariables false
set_option linter.unusedSimpArgs false
theorem Ig {a b:Prop} [Decidable a] [Decidable b]:(if decide a=true then some (decide b) else some false)=some (decide (a∧b)):=by
 by_cases h:a<;>simp[h]
theorem LJ {N f a m b s:Nat} {p:a7→a7→Option Int} {lt:a7→a7→Bool} {RF:List a7→Int→Int→Int→(a7→a7→Option Int)→Option (List a7)} (u:List a7) (hu:u.length≤4294967296) (hm:m < b) (h:a < m) (i:b≤u.length) (j:s≤(a+b) / 2)
  (d:(a+b) / 2 < (a+b) / 2+m - s→(a+b) / 2+m - s < b→RF u (((a+b) / 2:Nat):Int) (((a+b) / 2+m - s:Nat):Int) (b:Int) p=some (nF lt f u ((a+b) / 2) ((a+b) / 2+m - s) b)) :
  cC N (a:Int) (m:Int) (b:Int) p RF (s:Int) u=some (if (a+b) / 2 < (a+b) / 2+m - s∧(a+b) / 2+m - s < b then nF lt f u ((a+b) / 2) ((a+b) / 2+m - s) b else u):=by
 have e:((((a+b) / 2:Nat):Int) < (((a+b) / 2+m - s:Nat):Int))=((a+b) / 2 < (a+b) / 2+m - s):=propext x0
 have g:((((a+b) / 2+m - s:Nat):Int) < (b:Int))=((a+b) / 2+m - s < b):=propext x0
 unfold cC
 simp only[Dw (x:=a) (y:=b) OV,wA (x:=(a+b) / 2) (y:=m) OV,wS (x:=(a+b) / 2+m) (y:=s) OV OV,Ig,fI,e,g]
 by_cases c:(a+b) / 2 < (a+b) / 2+m - s∧(a+b) / 2+m - s < b
 ·simp only[c,and_self,decide_true,if_true,d c.1 c.2,fI]
 ·simp only[c,decide_false,gb,if_false]
theorem Hk {N f a m b s:Nat} {p:a7→a7→Option Int} {lt:a7→a7→Bool} {RF:List a7→Int→Int→Int→(a7→a7→Option Int)→Option (List a7)} (l u:List a7) (h:u.length=l.length) (i:∀ x∈u,x∈l) (hu:l.length≤4294967296) (hm:m < b) (n:a < m) (o:b≤l.length) (q:s≤(a+b) / 2) (E:b - a≤f+1)
  (j:∀ (v:List a7) (e g d:Nat),v.length=l.length→(∀ x∈v,x∈l)→e < g→g < d→d≤l.length→d - e≤f→RF v (e:Int) (g:Int) (d:Int) p=some (nF lt f v e g d)) :
  cB N (a:Int) (m:Int) (b:Int) p RF (s:Int) u=some (if (a+b) / 2 < (a+b) / 2+m - s∧(a+b) / 2+m - s < b then nF lt f (if a < s∧s < (a+b) / 2 then nF lt f u a s ((a+b) / 2) else u) ((a+b) / 2) ((a+b) / 2+m - s) b else (if a < s∧s < (a+b) / 2 then nF lt f u a s ((a+b) / 2) else u)):=by
 have r:((a:Int) < (s:Int))=(a < s):=propext x0
 have t:((s:Int) < (((a+b) / 2:Nat):Int))=(s < (a+b) / 2):=propext x0
 unfold cB
 simp only[Dw (x:=a) (y:=b) OV,Ig,fI,r,t]
 have k:=fun(v:List a7) (h1:v.length=l.length) (w:∀ x∈v,x∈l)=>LJ (N:=N) (f:=f) (lt:=lt) (RF:=RF) (p:=p) (s:=s) v OV hm n OV q (fun z A=>j v _ _ _ h1 w z A o OV)
 by_cases c:a < s∧s < (a+b) / 2
 ·obtain⟨B,C⟩:=rq (lt:=lt) f u a s ((a+b) / 2)
  simp only[c,and_self,decide_true,if_true,j u a s ((a+b) / 2) h i c.1 c.2 OV OV,fI]
  exact k _ (by rw[B,h]) (fun x D=>i x (C x D))
 ·simp only[c,decide_false,gb,if_false]
  exact k u h i
theorem DZ {N f a m b:Nat} {p:a7→a7→Option Int} {lt:a7→a7→Bool} {RF:List a7→Int→Int→Int→(a7→a7→Option Int)→Option (List a7)} (l:List a7) (u:tJ p lt l) (hu:l.length≤4294967296) (z:l.length < N) (hm:m < b) (k:a < m) (n:b≤l.length) (o:b - a≤f+1)
  (q:∀ (v:List a7) (r t d:Nat),v.length=l.length→(∀ x∈v,x∈l)→r < t→t < d→d≤l.length→d - r≤f→RF v (r:Int) (t:Int) (d:Int) p=some (nF lt f v r t d)) :
  ∀ (g fuel i j:Nat),j - i < g→j - i < fuel→i≤j→j≤(a+b) / 2→j≤m→a≤i→(a+b) / 2+m≤b+i →
   bt N l (a:Int) (m:Int) (b:Int) p RF fuel (i:Int) (j:Int)=some (
    let s:=bsr (fun c=>!um lt l ((a+b) / 2+m - 1 - c) c) g i j
    let e:=(a+b) / 2+m - s
    let l1:=if s < m∧m < e then rot l m (e - s) (m - s) (e - m) else l
    let l2:=if a < s∧s < (a+b) / 2 then nF lt f l1 a s ((a+b) / 2) else l1
    if (a+b) / 2 < e∧e < b then nF lt f l2 ((a+b) / 2) e b else l2)
 | 0,_,_,_,h,_,_,_,_,_,_=>by omega
 | g+1,0,_,_,_,h,_,_,_,_,_=>by omega
 | g+1,fuel+1,i,j,h1,K,L,C,D,E,F=>by
  rw[bt,bsr]
  by_cases c:i < j
  ·have c1:decide ((i:Int) < (j:Int))=true:=decide_eq_true OV
   have A:(i+j) / 2 < l.length:=by omega
   have hp:(a+b) / 2+m - 1 - (i+j) / 2 < l.length:=by omega
   obtain⟨v,v1,v2⟩:=u.at_ hp A
   simp only[c1,if_true,Dw (x:=a) (y:=b) OV,Dw (x:=i) (y:=j) OV,wA (x:=(a+b) / 2) (y:=m) OV,wS1 (x:=(a+b) / 2+m) OV OV,wS (x:=(a+b) / 2+m - 1) (y:=(i+j) / 2) OV OV,ag A,ag hp,fI,v1,if_pos c,v2]
   by_cases B:v < 0
   ·simp only[B,decide_true,hI,gb,if_false]
    exact DZ l u hu z hm k n o q g fuel _ _ OV OV OV OV OV E F
   ·simp only[B,decide_false,Bool.not_false,if_true,wr1 ((i+j) / 2) OV]
    exact DZ l u hu z hm k n o q g fuel _ _ OV OV OV C D OV OV
  ·have c1:decide ((i:Int) < (j:Int))=false:=decide_eq_false OV
   have G:((i:Int) < (m:Int))=(i < m):=propext x0
   have H:((m:Int) < (((a+b) / 2+m - i:Nat):Int))=(m < (a+b) / 2+m - i):=propext x0
   simp only[c1,gb,if_false,if_neg c,Dw (x:=a) (y:=b) OV,wA (x:=(a+b) / 2) (y:=m) OV,wS (x:=(a+b) / 2+m) (y:=i) OV OV,Ig,fI,G,H]
   by_cases c2:i < m∧m < (a+b) / 2+m - i
   ·have I:=Hn (N:=N) (a:=i) (m:=m) (b:=(a+b) / 2+m - i) p l OV c2.1 c2.2 OV hu
    simp only[c2,and_self,decide_true,if_true,I,fI]
    exact Hk l _ (Bf _ _ _ _ _) (fun x w=>y5 _ _ _ _ w) hu hm k n OV o q
   ·simp only[c2,decide_false,gb,if_false]
    exact Hk l l rfl (fun x w=>w) hu hm k n OV o q
theorem E2 {p:a7→a7→Option Int} {lt:a7→a7→Bool}:∀ (f N:Nat) (l:List a7) (a m b:Nat),tJ p lt l→l.length≤4294967296→l.length+f < N→a < m→m < b→b≤l.length→b - a≤f →
  aC N l (a:Int) (m:Int) (b:Int) p=some (nF lt f l a m b)
 | 0,_,_,_,_,_,_,_,_,h1,k,_,i=>by omega
 | f+1,0,_,_,_,_,_,_,h,_,_,_,_=>by omega
 | f+1,N+1,l,a,m,b,g,j,s,h1,k,i,q=>by
  rw[aC,wS (x:=m) (y:=a) OV OV,wS (x:=b) (y:=m) OV OV,Dw (x:=a) (y:=b) OV]
  unfold nF
  by_cases c1:m - a=1
  ·have d1:decide (((m - a:Nat):Int)=1)=true:=decide_eq_true OV
   rw[d1,if_pos rfl,if_pos c1]
   exact Hx g OV j OV (b - m+1) N m b OV OV h1 OV i
  ·have d1:decide (((m - a:Nat):Int)=1)=false:=decide_eq_false OV
   rw[d1,if_neg OW,if_neg c1]
   by_cases c2:b - m=1
   ·have d2:decide (((b - m:Nat):Int)=1)=true:=decide_eq_true OV
    rw[d2,if_pos rfl,if_pos c2]
    exact Hr g OV j OV (m - a+1) N a m OV OV OV (hA _)
   ·have d2:decide (((b - m:Nat):Int)=1)=false:=decide_eq_false OV
    rw[d2,if_neg OW,if_neg c2]
    have r:∀ (v:List a7) (d e c:Nat),v.length=l.length→(∀ x∈v,x∈l)→d < e→e < c→c≤l.length→c - d≤f→aC N v (d:Int) (e:Int) (c:Int) p=some (nF lt f v d e c):=
     fun v d e c g1 g2 g3 g4 g5 g6=>E2 f N v d e c (g.sub g2) OV OV g3 g4 OV g6
    have n:=DZ (N:=N) (f:=f) (a:=a) (m:=m) (b:=b) (lt:=lt) l g j OV k h1 i q r
    by_cases o:(a+b) / 2 < m
    ·have d3:decide ((((a+b) / 2:Nat):Int) < (m:Int))=true:=decide_eq_true OV
     simp only[d3,if_true,if_pos o,bM,wA (x:=(a+b) / 2) (y:=m) OV,wS (x:=(a+b) / 2+m) (y:=b) OV OV]
     exact n ((a+b) / 2 - ((a+b) / 2+m - b)+1) N ((a+b) / 2+m - b) ((a+b) / 2) OV OV OV (hA _) OV OV OV
    ·have d3:decide ((((a+b) / 2:Nat):Int) < (m:Int))=false:=decide_eq_false OV
     simp only[d3,gb,if_false,if_neg o,bM]
     exact n (m - a+1) N a m OV OV OV OV (hA _) (hA _) OV
section
variable {α:Type} {lt:α→α→Bool}
theorem AF (s:Nat):∀ (f:Nat) (l:List α) (a n:Nat),(zb lt s f l a n).length=l.length∧∀ x∈zb lt s f l a n,x∈l
 | 0,l,a,n=>⟨rfl,fun x h=>h⟩
 | f+1,l,a,n=>by
  unfold zb
  split
  ·obtain⟨h1,b⟩:=ug (lt:=lt) (s+1) l a (a+1) (a+s)
   obtain⟨g1,g2⟩:=AF s f (vg lt (s+1) l a (a+1) (a+s)) (a+s) n
   exact⟨by rw[g1,h1],fun x h=>b x (g2 x h)⟩
  ·exact ug _ _ _ _ _
theorem CR (F s:Nat):∀ (f:Nat) (l:List α) (a n:Nat),(pas lt F s f l a n).length=l.length∧∀ x∈pas lt F s f l a n,x∈l
 | 0,l,a,n=>⟨rfl,fun x h=>h⟩
 | f+1,l,a,n=>by
  unfold pas
  split
  ·obtain⟨h1,b⟩:=rq (lt:=lt) F l a (a+s) (a+2*s)
   obtain⟨g1,g2⟩:=CR F s f (nF lt F l a (a+s) (a+2*s)) (a+2*s) n
   exact⟨by rw[g1,h1],fun x h=>b x (g2 x h)⟩
  ·split
   ·exact rq _ _ _ _ _
   ·exact⟨rfl,fun x h=>h⟩
end
variable {p:a7→a7→Option Int} {lt:a7→a7→Bool}
theorem I1 {N a i:Nat} (K:List a7→Int→Option (List a7)):∀ (f fuel:Nat) (l:List a7) (j:Nat),j - a < f→j - a < fuel→j < l.length→tJ p lt l→l.length≤4294967296 →
  bI N (a:Int) p (i:Int) K fuel l (j:Int)=K (zQ lt f l a j) (IntKind.i64.wrap ((i:Int)+1))
 | 0,_,_,_,h,_,_,_,_=>by omega
 | f+1,0,_,_,_,h,_,_,_=>by omega
 | f+1,fuel+1,l,j,h1,r,b,g,n=>by
  rw[bI,zQ]
  by_cases c:a < j
  ·have c1:decide ((a:Int) < (j:Int))=true:=decide_eq_true OV
   have d:j - 1 < l.length:=by omega
   have o:j - 1 < (l.set j l[j - 1]).length:=by rw[List.length_set];omega
   obtain⟨v,v1,v2⟩:=g.at_ b d
   simp only[c1,if_true,wS1 (x:=j) OV OV,ag b,ag d,fI,v1,v2]
   by_cases k:v < 0
   ·have e:=rS (gx d) (gx b)
    rw[List.set_comm _ _ (show j - 1≠j by omega)] at e
    have m:=I1 (N:=N) (a:=a) (i:=i) K f fuel (swp l (j - 1) j) (j - 1) OV OV (by rw[lx];omega) (g.sub fun x q=>vO q) (by rw[lx];exact n)
    rw[e] at m
    simp only[k,decide_true,if_true,hQ,ag o,fI,c,and_self,e,m]
   ·simp only[k,decide_false,gb,if_false,and_false]
  ·have c1:decide ((a:Int) < (j:Int))=false:=decide_eq_false OV
   simp only[c1,gb,if_false,fI,c,false_and]
theorem IM {N a b:Nat} (e:b < N):∀ (f fuel:Nat) (l:List a7) (i:Nat),b - i < f→b - i < fuel→b≤l.length→tJ p lt l→l.length≤4294967296 →
  bn N (a:Int) (b:Int) p fuel l (i:Int)=some (vg lt f l a i b)
 | 0,_,_,_,h,_,_,_,_=>by omega
 | f+1,0,_,_,_,h,_,_,_=>by omega
 | f+1,fuel+1,l,i,h1,k,m,d,g=>by
  rw[bn,vg]
  by_cases c:i < b
  ·have c1:decide ((i:Int) < (b:Int))=true:=decide_eq_true OV
   obtain⟨n,j⟩:=wQ (lt:=lt) (i - a+1) l a i
   rw[c1,if_pos rfl,if_pos c,I1 (lt:=lt) _ (i - a+1) N l i OV OV OV d g,wr1 i OV]
   exact IM e f fuel _ (i+1) OV OV OV (d.sub j) OV
  ·have c1:decide ((i:Int) < (b:Int))=false:=decide_eq_false OV
   rw[c1,if_neg OW,if_neg c]
theorem Lj {N a b f:Nat} (l:List a7) (c:b < N) (d:b - (a+1) < f) (e:b≤l.length) (i:a≤b) (g:tJ p lt l) (h:l.length≤4294967296) :
  bW N l (a:Int) (b:Int) p=some (vg lt f l a (a+1) b):=by
 unfold bW
 rw[wr1 a OV]
 exact IM c f N l (a+1) d OV e g h
theorem Ho {N n:Nat} (d:n < N):∀ (f fuel:Nat) (l:List a7) (a:Nat),n - a < f→n - a < fuel→a≤n→n≤l.length→tJ p lt l→l.length≤4294967296 →
  cg N (n:Int) p fuel l (a:Int) ((a+20:Nat):Int)=bp N (n:Int) p N (zb lt 20 f l a n) 20
 | 0,_,_,_,h,_,_,_,_,_=>by omega
 | f+1,0,_,_,_,h,_,_,_,_=>by omega
 | f+1,fuel+1,l,a,h1,m,i,j,b,g=>by
  rw[cg,zb]
  by_cases c:a+20≤n
  ·have c1:decide (((a+20:Nat):Int)≤(n:Int))=true:=decide_eq_true OV
   obtain⟨o,k⟩:=ug (lt:=lt) (20+1) l a (a+1) (a+20)
   have e:IntKind.i64.wrap (((a+20:Nat):Int)+20)=((a+20+20:Nat):Int):=wA (x:=a+20) (y:=20) OV
   rw[c1,if_pos rfl,if_pos c,Lj (lt:=lt) (f:=20+1) l OV OV OV OV b g,fI,e]
   exact Ho d f fuel _ (a+20) OV OV c OV (b.sub k) OV
  ·have c1:decide (((a+20:Nat):Int)≤(n:Int))=false:=decide_eq_false OV
   rw[c1,if_neg OW,if_neg c,Lj (lt:=lt) (f:=n - a+1) l d OV j i b g,fI]
theorem L9 {N n F s:Nat} (e:n≤4294967296) (g:0 < s) (i:s < n) (j:n≤F) (k:n+F < N) (K:List a7→Int→Option (List a7)):∀ (f fuel:Nat) (l:List a7) (a:Nat),n - a < f→n - a < fuel→a≤n→l.length=n→tJ p lt l →
  cI N (n:Int) p (s:Int) K fuel l (a:Int) ((a+2*s:Nat):Int)=K (pas lt F s f l a n) ((2*s:Nat):Int)
 | 0,_,_,_,h,_,_,_,_=>by omega
 | f+1,0,_,_,_,h,_,_,_=>by omega
 | f+1,fuel+1,l,a,h1,r,t,u,b=>by
  rw[cI,pas]
  have m:IntKind.i64.wrap ((s:Int)*2)=((2*s:Nat):Int):=by rw[wr OV OV];omega
  have o:IntKind.i64.wrap (2*(s:Int))=((2*s:Nat):Int):=by rw[wr OV OV];omega
  rw[wA (x:=a) (y:=s) OV,m]
  by_cases c:a+2*s≤n
  ·have c1:decide (((a+2*s:Nat):Int)≤(n:Int))=true:=decide_eq_true OV
   obtain⟨v,q⟩:=rq (lt:=lt) F l a (a+s) (a+2*s)
   have d:=E2 F N l a (a+s) (a+2*s) b OV OV OV OV OV OV
   rw[c1,if_pos rfl,if_pos c,d,fI,o,wA (x:=a+2*s) (y:=2*s) OV]
   exact L9 e g i j k K f fuel _ (a+2*s) OV OV c OV (b.sub q)
  ·have c1:decide (((a+2*s:Nat):Int)≤(n:Int))=false:=decide_eq_false OV
   rw[c1,if_neg OW,if_neg c]
   by_cases c2:a+s < n
   ·have d1:decide (((a+s:Nat):Int) < (n:Int))=true:=decide_eq_true OV
    have d:=E2 F N l a (a+s) n b OV OV OV OV OV OV
    rw[d1,if_pos rfl,if_pos c2,d,fI]
   ·have d1:decide (((a+s:Nat):Int) < (n:Int))=false:=decide_eq_false OV
    rw[d1,if_neg OW,if_neg c2]
theorem Ln {N n F:Nat} (b:n≤4294967296) (d:n≤F) (e:n+F < N):∀ (f fuel:Nat) (l:List a7) (s:Nat),0 < s→n - s < f→n - s < fuel→l.length=n→tJ p lt l →
  bp N (n:Int) p fuel l (s:Int)=some (stL lt F f l n s)
 | 0,_,_,_,_,h,_,_,_=>by omega
 | f+1,0,_,_,_,_,h,_,_=>by omega
 | f+1,fuel+1,l,s,i,h1,o,j,g=>by
  rw[bp,stL]
  by_cases c:s < n
  ·have c1:decide ((s:Int) < (n:Int))=true:=decide_eq_true OV
   have k:IntKind.i64.wrap (2*(s:Int))=((0+2*s:Nat):Int):=by rw[wr OV OV];omega
   obtain⟨q,m⟩:=CR (lt:=lt) F s (n+1) l 0 n
   rw[c1,if_pos rfl,if_pos c,k]
   refine (L9 (lt:=lt) (a:=0) b i c d e _ (n+1) N l OV OV OV j g).trans ?_
   exact Ln b d e f fuel _ (2*s) OV OV OV OV (g.sub m)
  ·have c1:decide ((s:Int) < (n:Int))=false:=decide_eq_false OV
   rw[c1,if_neg OW,if_neg c]
theorem LM {N:Nat} (l:List a7) (a:tJ p lt l) (b:l.length≤4294967296) (c:l.length+l.length < N):cA N l p=some (wE lt l.length l):=by
 unfold cA eZ wE
 obtain⟨d,e⟩:=AF (lt:=lt) 20 (l.length+1) l 0 l.length
 have h1:=Ho (lt:=lt) (N:=N) (n:=l.length) OV (l.length+1) N l 0 OV OV OV (hA _) a b
 simp only[l4,ho] at h1
 have f:cg N (l.length:Int) p N l 0 20=_:=h1
 have g:=Ln (lt:=lt) (N:=N) (n:=l.length) (F:=l.length) b (hA _) c (l.length+1) N (zb lt 20 (l.length+1) l 0 l.length) 20 OV OV OV d (a.sub e)
 have h:bp N (l.length:Int) p N (zb lt 20 (l.length+1) l 0 l.length) 20=_:=g
 rw[f,h,fI]
theorem GP {N:Nat} (b:1099000000000≤N) (ps:List az) (s:ae) (ids:List Int) (e:dE ps≤1048576) (hp:∀ p∈ps,p.Args.length≤1048576) (f:s.Items.length≤1048576) (g:∀ x∈s.Items,x.F.Fields.length≤1048576) (k:ids.length≤1048576) (he:ids.length=ps.length) :
  iH N ps s ids=some (be s.Items ps ids []):=by
 unfold iH
 have lp:∀ (n i:Nat) (l:List aw),i≤ids.length→ids.length - i < n→l.length+dE (ps.drop i)≤1048576→et N ps s ids n l i=some (be s.Items (ps.drop i) (ids.drop i) l):=by
  intro n
  induction n with
  | zero=>intro i _ _ h;omega
  | succ n j=>
   intro i l h1 m c
   by_cases d:i < ids.length
   ·have c1:decide ((i:Int) < (ids.length:Int))=true:=decide_eq_true OV
    have a:i < ps.length:=by omega
    rw[hy a] at c
    rw[eX] at c
    have o:=lB ps[i] (aF s.Items ids[i]).1 l
    rw[hy d,hy a,be]
    simp only[et,c1,if_true,ag d,ag a,fI,tx b s _ f g,wl b ps[i] _ l (hp _ (hK a)) (show l.length≤2147483648 by omega),wr1 i OV]
    cases (aF s.Items ids[i]).2 with
    | false=>simp
    | true=>
     cases (bz ps[i] (aF s.Items ids[i]).1 l).2 with
     | false=>simp
     | true=>
      simp only[hI,gb,if_false,and_self,if_true]
      exact j (i+1) _ OV OV OV
   ·have c1:decide ((i:Int) < (ids.length:Int))=false:=decide_eq_false OV
    simp only[et,c1,gb,if_false]
    rw[hB OV,hB OV];rfl
 have:=lp N 0 [] OV OV (by simpa using e)
 simpa using this
theorem DE {N:Nat} (a:1099000000000≤N) (r:ah) (s:ae) (ids:List Int) (b:r.Pats.length≤1048576) (f:dE r.Pats≤1048576) (hp:∀ p∈r.Pats,p.Args.length≤1048576) (c:s.Items.length≤1048576) (d:∀ x∈s.Items,x.F.Fields.length≤1048576) (e:ids.length≤1048576) :
  nj N r s ids=some (be s.Items (pos r.Pats) ids []):=by
 unfold nj
 rw[qx a r false b,fI,z8]
 by_cases he:ids.length=(pos r.Pats).length
 ·have c1:decide ((ids.length:Int)=((pos r.Pats).length:Int))=true:=decide_eq_true OV
  have h1:=qT r.Pats
  rw[c1]
  simp only[hI,gb,if_false,GP a (pos r.Pats) s ids OV (fun p h=>hp p ((l0.1 h).1)) c d e he,fI]
 ·have c1:decide ((ids.length:Int)=((pos r.Pats).length:Int))=false:=decide_eq_false OV
  rw[c1,xq (fun h=>he h.symm)];rfl
theorem Cq {N:Nat} (c:1099000000000≤N) (a:cO) (l:List aw) (d:l.length≤4294967296):nR N a l=some (oP a l):=by
 unfold nR oP
 rw[IU c l a.S d]
 by_cases b:a.K=2
 ·simp[b]
 ·by_cases h1:a.K=1<;>simp[h1,b,zv]
theorem or3 {N:Nat} (l:1099000000000≤N) (a b c:Int):gR N [a,b,c]=some (if a=0 then (if b=0 then c else b) else a):=by
 obtain⟨n,rfl⟩:∃ n,N=n+4:=⟨N - 4,OV⟩
 unfold gR
 have f:IntKind.i64.wrap ((0:Int)+1)=1:=by decide
 have g:IntKind.i64.wrap ((1:Int)+1)=2:=by decide
 have h:IntKind.i64.wrap ((2:Int)+1)=3:=by decide
 have i0:idx [a,b,c] 0=some a:=rfl
 have i:idx [a,b,c] 1=some b:=rfl
 have i2:idx [a,b,c] 2=some c:=rfl
 have j:(([a,b,c]:List Int).length:Int)=3:=rfl
 simp only[gF,f,g,h,i0,i,i2,j,fI]
 by_cases d:a=0
 ·by_cases e:b=0
  ·by_cases k:c=0<;>simp[d,e,k]
  ·simp[d,e]
 ·simp[d]
theorem OF (N:Nat) (a b:Qr):gw N a b=some (if slt a b=true then -1 else if (!slt a b && !seq a b)=true then 1 else 0):=by
 unfold gw io
 simp only[l6,hI,fI,gb,if_false]
 cases slt a b with
 | true=>simp
 | false=>cases seq a b<;>simp
theorem Ju {N:Nat} (d:1099000000000≤N) (x y:bP):oE N x y=some (J4 x y):=by
 unfold oE m5 J4
 simp only[BQ,OF,fI,or3 d,cmp]
 congr 1
 by_cases h1:x.K=y.K
 ·by_cases c:x.N=y.N
  ·simp only[h1,c,Int.lt_irrefl,if_false,if_true]
   cases slt x.S y.S with
   | true=>simp
   | false=>cases seq x.S y.S<;>simp
  ·simp only[h1,c,Int.lt_irrefl,if_false,if_true]
   by_cases a:x.N < y.N
   ·simp[a]
   ·have b:y.N < x.N:=by omega
    simp[a,b]
 ·simp only[h1,if_false]
  by_cases a:x.K < y.K
  ·simp[a]
  ·have b:y.K < x.K:=by omega
   simp[a,b]
theorem Jk {N:Nat} (a:1099000000000≤N) (c:fm) (l:List aw) (b:l.length≤4294967296):rp N c l=some (holds c l):=by
 unfold rp holds
 rw[Cq a c.L l b,Cq a c.R l b]
 simp only[fI,Ju a,iG]
 cases (oP c.L l).2 with
 | false=>simp
 | true=>
  cases (oP c.R l).2 with
  | false=>simp
  | true=>
   by_cases h1:c.Op=1
   ·simp[h1]
   ·by_cases d:c.Op=2
    ·simp[d]
    ·by_cases e:c.Op=3<;>simp[h1,d,e]
theorem AU {N:Nat} (a:1099000000000≤N) (cs:List fm) (l:List aw) (j:cs.length≤4194304) (d:l.length≤4294967296):mI N cs l=some (cs.all fun c=>holds c l):=by
 unfold mI
 refine lp0 a cs OV (gp N cs l) (fun t=>some (t.all fun c=>holds c l)) (fun n i x t h1 b k e f g h=>?_) (fun n i h1 b=>?_)
 ·simp only[gp,f,if_true,e,fI,Jk a x l d,g,h,p1]
  cases holds x l<;>simp
 ·simp only[gp,b,gb,if_false];rfl
theorem LH {N:Nat} (a:1099000000000≤N) (t:an) (h:t.Hits.length≤4294967296):pT N t=some (xJ t):=by
 unfold pT xJ
 refine lp0 a t.Hits h (gW N t) (fun l=>some (l.all fun n=>decide (n=0))) (fun n i x l g1 g2 g3 g4 g5 g6 g7=>?_) (fun n i g1 g2=>?_)
 ·simp only[gW,g5,if_true,g4,fI,g6,g7,p1]
  by_cases c:x=0<;>simp[c]
 ·simp only[gW,g2,gb,if_false];rfl
structure SzP (r:ah) (xs:List ak):Prop where
 pl:r.Pats.length≤1048576
 sa:dE r.Pats≤1048576
 pa:∀ p∈r.Pats,p.Args.length≤1048576
 cl:r.Conds.length≤1048576
 sl:xs.length≤1048576
 fl:∀ x∈xs,x.F.Fields.length≤1048576
theorem SzP.binds {r:ah} {xs:List ak} (h:SzP r xs) (ids:List Int):(be xs (pos r.Pats) ids []).1.length≤1048576:=by
 have h1:=uQ (xs:=xs) (pos r.Pats) ids []
 have a:=qT r.Pats
 have b:=h.sa
 simp at h1
 omega
theorem Cd {xs:List ak} {i:Int} {r:ah} {t:an} {b:Bool} (h:((be xs (pos r.Pats) t.Ids []).2 && (xJ t && r.Conds.all fun c=>holds c (be xs (pos r.Pats) t.Ids []).1))=b):tX xs i r t=if b=true then [⟨i,t.Ids,(be xs (pos r.Pats) t.Ids []).1⟩] else []:=by
 unfold tX;rw[h]
theorem KP {N:Nat} (e:1099000000000≤N) (s:ae) (s1:List a7) (i:Nat) (K:List a7→Int→Option (List a7)) (r:ah) (L:ar) (d:SzP r s.Items) (p:L.Toks.length≤1048576) (q:∀ t∈L.Toks,t.Ids.length≤1048576∧t.Hits.length≤1048576) :
  fL N s s1 (i:Int) K r L N [] 0=(app s1 (vh (pj s.Items (i:Int) r L.Toks))).bind fun x=>K x (IntKind.i64.wrap ((i:Int)+1)):=by
 refine (lp' e L.Toks OV (fun n (u:List a7) j=>fL N s s1 (i:Int) K r L n u j) (fun t u=>(app s1 (vh (u++pj s.Items (i:Int) r t))).bind fun x=>K x (IntKind.i64.wrap ((i:Int)+1))) (fun u t=>u.length+t.length≤1048576∧∀ x∈u,x.Ids.length≤1048576) [] ⟨by simpa using p,OW⟩ (fun n u j t l g1 g2 g3 g4 g5 g6 g o=>?_) (fun n u j g1 g2 g=>?_)).trans OW
 ·obtain⟨k,i2⟩:=g
  simp only[gj] at k
  obtain⟨t1,t2⟩:=q t g2
  have w:=d.binds t.Ids
  have z:=d.cl
  have es:pj s.Items (i:Int) r (t :: l)=tX s.Items (i:Int) r t++pj s.Items (i:Int) r l:=rfl
  have skip:((be s.Items (pos r.Pats) t.Ids []).2 && (xJ t && r.Conds.all fun c=>holds c (be s.Items (pos r.Pats) t.Ids []).1))=false→fL N s s1 (i:Int) K r L n u ((j+1:Nat):Int)=(app s1 (vh (u++pj s.Items (i:Int) r (t :: l)))).bind fun x=>K x (IntKind.i64.wrap ((i:Int)+1)):=fun h=>by
   rw[o u ⟨OV,i2⟩,es,Cd h];simp
  simp only[fL,g5,if_true,g4,fI,DE e r s t.Ids d.pl d.sa d.pa d.sl d.fl t1]
  cases f:(be s.Items (pos r.Pats) t.Ids []).2 with
  | false=>
   simp only[gb,if_false,fI,g6]
   exact skip (by rw[f];rfl)
  | true=>
   simp only[if_true,LH e t OV,fI]
   cases m:xJ t with
   | false=>
    simp only[gb,if_false,fI,g6]
    exact skip (by rw[f,m];rfl)
   | true=>
    simp only[if_true,AU e r.Conds _ (show r.Conds.length≤4194304 by omega) (show (be s.Items (pos r.Pats) t.Ids []).1.length≤4294967296 by omega),fI]
    cases hH:(r.Conds.all fun c=>holds c (be s.Items (pos r.Pats) t.Ids []).1) with
    | false=>
     simp only[gb,if_false,g6]
     exact skip (by rw[f,m,hH];rfl)
    | true=>
     simp only[if_true,bm,gD (show t.Ids.length≤4294967296 by omega),fI,bV (show u.length+[(⟨(i:Int),t.Ids,(be s.Items (pos r.Pats) t.Ids []).1⟩:a7)].length≤4294967296 by simp;omega),g6]
     rw[o _ ⟨by simp;omega,fun x a=>by
      rcases gf.1 a with a | a
      ·exact i2 x a
      ·simp only[j3] at a;rw[a];exact t1⟩,es,Cd (b:=true) (by rw[f,m,hH];rfl)]
     simp
 ·obtain⟨k,i2⟩:=g
  simp only[gm,Nat.add_zero] at k
  have v:tJ (eD N) mN u:=fun x a y A=>Ja OV x y (i2 x a)
  simp only[fL,g2,gb,if_false,LM (N:=N) u v OV OV,fI]
  simp[pj,vh]
theorem Ij:vh []=[]:=by
 have:=(BT []).2.length_eq
 exact oj.1 (by simpa using this)
theorem Jb (l:List a7):(vh l).length=l.length:=(BT l).2.length_eq
theorem GS {w:aH} (h:w.Levels.length=0):pt w=[]:=by
 unfold pt
 rw[oj.1 h];rfl
def Gb:List aH→Nat
 | []=>0
 | w :: ws=>(pt w).length+Gb ws
def oY (i:Nat) (m:a7):a7:=⟨(i:Int),m.Ids,m.Binds⟩
def dC (xs:List ak):Nat→List ah→List a7
 | _,[]=>[]
 | i,r :: t=>(jw r xs).map (oY i)++dC xs (i+1) t
theorem DP {r:ah} {s:ae} (a:yA r s):(jw r s.Items).length≤1073741824:=by
 have h1:=uj (vC r s.Items) s.Items (r.Pats.take (ao r.Pats)) [] []
 have b:=eh r.Pats
 rw[j4,Nat.min_eq_left b] at h1
 exact l3 h1 a.nm
theorem xv {xs:List ak} {M:Nat}:∀ (t:List ah) (i:Nat),(∀ r∈t,(jw r xs).length≤M)→(dC xs i t).length≤t.length*M
 | [],i,_=>by simp[dC]
 | r :: t,i,h=>by
  have h1:=xv t (i+1) fun y a=>h y (by simp[a])
  have b:=h r OW
  unfold dC
  rw[gk,p4,gj,hE];omega
theorem Gz (ps:List az) (xs:List ak) (l:List aw):((eT xs (neg ps) l).all fun n=>decide (n=0)) = !nf ps xs l:=by
 unfold eT neg nf
 induction ps with
 | nil=>rfl
 | cons p ps a=>
  rw[j8,List.any_cons]
  cases hp:p.Not with
  | false=>simp only[gb,if_false,Bool.false_and,Bool.false_or];exact a
  | true=>
   simp only[if_true,hL,p1,hZ,Bool.not_or,a]
   congr 1
   have h:=C5 p l xs
   rw[← h]
   by_cases c:ta p l xs=0
   ·simp[c]
   ·rw[decide_eq_false OV,decide_eq_true OV];rfl
theorem xz {xs:List ak} {ps:List az} {r:List Int} (h:r.length=ps.length):okB xs ps r=be xs ps r []:=by
 unfold okB
 rw[List.take_of_length_le OV]
theorem Kg {a b:a7} (h:mN a b=true):a≠b:=fun e=>by
 subst e
 have:=xr.irr a
 rw[h] at this
 cases this
theorem IK {xs:List ak} {i:Nat} {r:ah} {w:aH} (hu:pJ xs) (hp:iy r.Pats=true) (K:w.Levels.length=(pos r.Pats).length) (hw:wy xs r w):vh (pj xs (i:Int) r (pt w))=(jw r xs).map (oY i):=by
 have v:pos r.Pats=r.Pats.take (ao r.Pats):=tY hp
 have M:1≤(pos r.Pats).length:=by
  have h1:=hp
  unfold iy at h1
  simp only[ha,decide_eq_true_eq] at h1
  have d:(pos r.Pats).length=ao r.Pats:=qh r.Pats
  omega
 have C:w.Levels.length - 1 < w.Levels.length:=by omega
 obtain⟨L,y⟩:∃ L,w.Levels[w.Levels.length - 1]?=some L:=⟨_,gx C⟩
 have D:pt w=L.Toks:=by unfold pt;rw[y]
 obtain⟨l,E⟩:=hw _ L y
 rw[show w.Levels.length - 1+1=(pos r.Pats).length by omega] at l
 rw[D]
 have F:=Af (r:=r) hu
 have z:((jw r xs).map (oY i)).Pairwise fun a b=>mN a b=true:=by
  rw[P8]
  exact F.imp_of_mem fun {a b} g f n=>by
   have h1:=(pI hu g).1
   have d:=(pI hu f).1
   unfold mN oY at *
   rw[if_pos OV] at n
   simpa using n
 have A:∀ t∈L.Toks,t.Ids.length=(pos r.Pats).length∧(be xs (pos r.Pats) t.Ids []).2=true∧xJ t = !nf r.Pats xs (be xs (pos r.Pats) t.Ids []).1:=fun t h=>by
  obtain⟨h1,d⟩:=Has.len l t h
  have e:=xz (xs:=xs) h1
  unfold okR at d
  rw[e] at d
  refine⟨h1,d,?_⟩
  have k:=E t h
  unfold iX at k
  rw[if_pos OV,e] at k
  unfold xJ
  rw[k]
  exact Gz _ _ _
 symm
 refine Jo ?_ ?_
 ·exact z.imp_of_mem fun {a b} g f n=>by
   exact xr.asymm a b n
 ·refine (List.perm_ext_iff_of_nodup (z.imp fun h=>Kg h) ?_).2 fun x=>?_
  ·unfold pj List.Nodup
   rw[List.pairwise_flatMap]
   refine⟨fun t _=>?_,?_⟩
   ·unfold tX
    split
    ·exact List.pairwise_singleton _ _
    ·exact List.Pairwise.nil
   ·have q:=l.nd
    unfold fy List.Nodup at q
    rw[P8] at q
    exact q.imp fun {t u} G a g b f e=>G (by
     unfold tX at g f
     split at g
     ·split at f
      ·simp only[j3] at g f
       rw[g,f] at e
       exact (a7.mk.inj e).2.1
      ·cases f
     ·cases g)
  ·unfold pj
   rw[hG,List.mem_flatMap]
   constructor
   ·rintro⟨m,hm,rfl⟩
    obtain⟨h1,d,k⟩:=pI hu hm
    rw[← v] at d
    have hlen:=yq _ _ _ _ d
    have H:okR xs (pos r.Pats) m.Ids=true:=by unfold okR;rw[xz hlen,d]
    obtain⟨t,o,B⟩:=hG.1 ((l.iff m.Ids).2 ⟨hlen,H⟩)
    refine⟨t,o,?_⟩
    obtain⟨I,s,p⟩:=A t o
    rw[B,d] at p
    unfold tX
    rw[B,d,p]
    simp only[hZ]
    rw[if_pos k]
    simp[oY]
   ·rintro⟨t,o,j⟩
    obtain⟨I,s,p⟩:=A t o
    unfold tX at j
    rw[s,p,hZ] at j
    split at j
    ·rename_i c
     simp only[j3] at j
     subst j
     have f:be xs (r.Pats.take (ao r.Pats)) t.Ids []=((be xs (pos r.Pats) t.Ids []).1,true):=by rw[← v,← s]
     exact⟨_,Gl f c,rfl⟩
    ·cases j
theorem Bz {xs:List ak} (hu:pJ xs):∀ (a:List ah) (ws:List aH) (i:Nat),a.length=ws.length→(∀ r∈a,ja r=true)→(∀ (k:Nat) (r:ah) (w:aH),a[k]?=some r→ws[k]?=some w→w.Levels.length=(pos r.Pats).length∧wy xs r w)→Ev xs i a ws=dC xs i a
 | [],[],i,_,_,_=>rfl
 | [],w :: ws,i,h,_,_=>by simp at h
 | r :: a,[],i,h,_,_=>by simp at h
 | r :: a,w :: ws,i,h,d,hw=>by
  have e:=Bz hu a ws (i+1) (by simpa using h) (fun q f=>d q (by simp[f])) fun k q v h1 b=>hw (k+1) q v (by simpa using h1) (by simpa using b)
  obtain⟨h1,b⟩:=hw 0 r w rfl rfl
  have c:=d r OW
  have hp:iy r.Pats=true:=by
   unfold ja at c
   simp only[ha] at c
   exact c.2.2.1
  rw[Ev,dC,e,IK hu hp h1 b]
theorem qK {r:ah} (h:ja r=true):iy r.Pats=true:=by
 unfold ja at h
 simp only[ha] at h
 exact h.2.2.1
theorem E1 {r:ah} (h:ja r=true):pos r.Pats=r.Pats.take (ao r.Pats):=tY (qK h)
theorem yZ {B:Nat}:∀ {l:List az},(∀ p∈l,p.Args.length≤B)→dE l≤l.length*B
 | [],_=>by simp[dE]
 | p :: t,h=>by
  have h1:=yZ (l:=t) fun q a=>h q (by simp[a])
  have b:=h p OW
  rw[eX,gj,hE];omega
theorem uN {c:Nat}:∀ (l:List az) (i:Nat),iL c i l=true→∀ p∈l,uK p=true
 | [],_,_,p,hp=>by cases hp
 | x :: t,i,h,p,hp=>by
  unfold iL at h
  simp only[ha] at h
  rcases List.mem_cons.1 hp with rfl | hp
  ·exact h.1
  ·exact uN t _ h.2.2 p hp
theorem Fg {r:ah} {s:ae} (a:ja r=true) (b:fx s=true):yA r s:=by
 have hp:=qK a
 unfold ja at a
 simp only[ha,decide_eq_true_eq] at a
 have d:=a.2.2.2.1.2
 unfold iy at hp
 simp only[ha,decide_eq_true_eq] at hp
 obtain⟨⟨_,e⟩,⟨_,c⟩,p3⟩:=hp
 have pa:∀ p∈r.Pats,p.Args.length≤5:=fun p hp=>by
  have:=uN _ _ p3 p hp
  unfold uK at this
  simp only[ha,decide_eq_true_eq] at this
  omega
 have sa:=yZ pa
 unfold fx at b
 simp only[ha,decide_eq_true_eq] at b
 have xl:=b.2.1
 refine⟨OV,fun p hp=>by have:=pa p hp;omega,OV,OV,OV,?_⟩
 exact l3 (Nat.pow_le_pow_left xl _) (l3 (P9 OV c) (by decide))
theorem AO {r:ah} {s:ae} (b:ja r=true) (a:fx s=true):(jw r s.Items).length≤64000:=by
 have hp:=qK b
 unfold iy at hp
 simp only[ha,decide_eq_true_eq] at hp
 obtain⟨_,⟨_,c⟩,_⟩:=hp
 unfold fx at a
 simp only[ha,decide_eq_true_eq] at a
 have xl:=a.2.1
 have h1:=uj (vC r s.Items) s.Items (r.Pats.take (ao r.Pats)) [] []
 rw[j4,Nat.min_eq_left (eh r.Pats)] at h1
 exact l3 h1 (l3 (Nat.pow_le_pow_left xl _) (l3 (P9 OV c) (by decide)))
def sL (d:bf) (s:ae):List a7:=if (iq d && fx s)=true then dC s.Items 0 d.Rules else []
theorem wK {d:bf} (h:iq d=true):d.Rules.length≤12:=by
 unfold iq at h
 simp only[ha,decide_eq_true_eq] at h
 exact h.2.1.2
theorem Kz {N:Nat} (o:1099000000000≤N) (d:bf) (m:aJ) (s:ae) (p:∀ r∈d.Rules,SzP r s.Items) (C:d.Rules.length≤1048576) (hm:m.Rules.length=d.Rules.length) (hw:∀ w∈m.Rules,w.Levels.length≤1048576∧(pt w).length≤1048576∧∀ t∈pt w,t.Ids.length≤1048576∧t.Hits.length≤1048576) :
  ∀ (n i:Nat) (u:List a7),d.Rules.length - i < n→i≤d.Rules.length→u.length+Gb (m.Rules.drop i)≤4294967296→iF N d m s n u (i:Int)=some (u++Ev s.Items i (d.Rules.drop i) (m.Rules.drop i)):=by
 intro n
 induction n with
 | zero=>intro i u h;omega
 | succ n b=>
  intro i u D E hu
  rw[iF]
  by_cases c:i < d.Rules.length
  ·have c1:decide ((i:Int) < (d.Rules.length:Int))=true:=decide_eq_true OV
   have c2:i < m.Rules.length:=by omega
   have d1:decide ((i:Int) < (m.Rules.length:Int))=true:=decide_eq_true OV
   have d2:decide ((m.Rules.length:Int)≤(i:Int))=false:=decide_eq_false OV
   rw[hy c,hy c2,Ev]
   rw[hy c2,Gb] at hu
   simp only[c1,d1,d2,if_true,fI,ag c,ag c2,gb,if_false]
   obtain⟨F,f,g⟩:=hw _ (hK c2)
   have q:=p _ (hK c)
   by_cases v:m.Rules[i].Levels.length=0
   ·have a:decide ((m.Rules[i].Levels.length:Int)=0)=true:=decide_eq_true OV
    have j:=GS v
    rw[j] at hu
    simp only[a,if_true,wr1 i OV,j]
    have:=b (i+1) u OV OV (by simpa using hu)
    have e:vh (pj s.Items (i:Int) d.Rules[i] [])=[]:=Ij
    rw[e,hz]
    exact this
   ·have a:decide ((m.Rules[i].Levels.length:Int)=0)=false:=decide_eq_false OV
    have l:m.Rules[i].Levels.length - 1 < m.Rules[i].Levels.length:=by omega
    have y:pt m.Rules[i]=m.Rules[i].Levels[m.Rules[i].Levels.length - 1].Toks:=by unfold pt;rw[gx l]
    simp only[a,gb,if_false,wS1 (x:=m.Rules[i].Levels.length) OV OV,ag l,fI]
    rw[y] at hu g f ⊢
    have G:=CD (xs:=s.Items) (i:=(i:Int)) (r:=d.Rules[i]) m.Rules[i].Levels[m.Rules[i].Levels.length - 1].Toks
    have H:=Jb (pj s.Items (i:Int) d.Rules[i] m.Rules[i].Levels[m.Rules[i].Levels.length - 1].Toks)
    have z:app u (vh (pj s.Items (i:Int) d.Rules[i] m.Rules[i].Levels[m.Rules[i].Levels.length - 1].Toks))=some (u++vh (pj s.Items (i:Int) d.Rules[i] m.Rules[i].Levels[m.Rules[i].Levels.length - 1].Toks)):=bV OV
    have:=b (i+1) (u++vh (pj s.Items (i:Int) d.Rules[i] m.Rules[i].Levels[m.Rules[i].Levels.length - 1].Toks)) OV OV (by rw[gk];omega)
    rw[KP o s u i _ d.Rules[i] _ q f g,z,fI,wr1 i OV,← gi]
    exact this
  ·have c1:decide ((i:Int) < (d.Rules.length:Int))=false:=decide_eq_false OV
   have A:d.Rules.drop i=[]:=hB OV
   have B:∀ (k:Nat) (ws:List aH),Ev s.Items k [] ws=[]:=fun k ws=>by cases ws<;>rfl
   rw[A,B]
   simp only[c1,gb,if_false,fI,ix]
theorem NH {d:bf} {s:ae} (b:pA d) (a:lE s):∀ r∈d.Rules,SzP r s.Items:=fun r c=>by
 obtain⟨_,⟨g0,g1⟩,⟨g3,_⟩,_,g2,_⟩:=b.2.2 r c
 exact⟨g0,g2,fun p hp=>(g1 p hp).2.1,g3,a.1,fun x e=>(a.2 x e).2.1⟩
theorem Fh {N:Nat} (f:1099000000000≤N) {d:bf} {m:aJ} {s:ae} (e:iq d=true) (g:pA d) (i:lE s) {j:Nat} (k:j≤40) (c:m3 d (bB d) j m):ki N d m s=some (Ev s.Items 0 d.Rules m.Rules):=by
 have h1:m3 d ⟨[],[]⟩ j ⟨[],m.Rules⟩:=⟨rfl,c.lr,OW,c.rows⟩
 have l:=(Fo e OW h1).rows
 have u:=wK e
 have hw:∀ w∈m.Rules,w.Levels.length≤1048576∧(pt w).length≤400000∧∀ t∈pt w,t.Ids.length≤1048576∧t.Hits.length≤1048576:=fun w hw=>by
  obtain⟨a,b⟩:=l w hw
  refine⟨OV,?_⟩
  unfold pt
  split
  ·rename_i L n
   obtain⟨c1,c2⟩:=b _ L n
   have hp:100 ^ (w.Levels.length - 1)≤100 ^ 2:=P9 OV OV
   have:j*100 ^ (w.Levels.length - 1)≤40*100 ^ 2:=Nat.mul_le_mul k hp
   refine⟨OV,fun t o=>?_⟩
   have:=c2 t o
   exact⟨OV,OV⟩
  ·simp
 have p:∀ (ws:List aH),(∀ w∈ws,(pt w).length≤400000)→Gb ws≤ws.length*400000:=by
  intro ws
  induction ws with
  | nil=>intro _;simp[Gb]
  | cons w ws q=>
   intro h
   have a:=h w OW
   have b:=q fun v r=>h v (by simp[r])
   rw[Gb,gj,hE];omega
 have x:=p m.Rules fun w h=>(hw w h).2.1
 have y:=c.lr
 have:=Kz f d m s (NH g i) OV c.lr (fun w h=>⟨(hw w h).1,by have:=(hw w h).2.1;omega,(hw w h).2.2⟩) N 0 [] OV OV (by simp;omega)
 unfold ki
 simpa using this
theorem Is {N:Nat} (f:1099000000000≤N) {d:bf} {m:aJ} {s:ae} (b:iq d=true) (g:pA d) (h:lE s) (hu:pJ s.Items) {j:Nat} (i:j≤40) (a:m3 d (bB d) j m) (l:rF d (bB d) s.Items m):ki N d m s=some (dC s.Items 0 d.Rules):=by
 rw[Fh f b g h i a,Bz hu d.Rules m.Rules 0 a.lr.symm (kX b) fun k r w c e=>⟨(a.rows k r w c e).1,l.rows k r w c e⟩]
theorem rT {x:ak}:∀ (l:List ak),(l.map (·.Id)).Nodup→x∈l→aF l x.Id=(x.F,true)
 | [],_,h=>by cases h
 | y :: t,a,h=>by
  rw[hL,List.nodup_cons] at a
  rw[jG]
  rcases List.mem_cons.1 h with rfl | h
  ·rw[if_pos rfl]
  ·rw[if_neg fun e=>a.1 (hG.2 ⟨x,h,e.symm⟩)]
   exact rT t a.2 h
theorem GO {xs:List ak} {ps:List az} {x:ak} {A:Nat→List Int} (b:∀ k p,ps[k]?=some p→∀ y∈xs,dK (aX p) y.F=true→y.Id∈A k) (c:∀ k,k < ps.length→(A k).Nodup):AW (okR (gB x.Id xs) ps) (okR xs ps) x.Id A ps.length:=by
 refine⟨fun r h=>?_,fun r h hm=>(yg r).2 ⟨h,hm⟩,fun r y h=>?_,fun r y g h=>?_,c⟩
 ·have:=(yg r).1 h
  exact⟨this.2,this.1⟩
 ·unfold okR okB at h ⊢
  rw[gk,gj,gm,ho] at h
  exact vl ps r [] h
 ·have d:=iE _ _ _ h y OW
  unfold okR okB at h
  rw[gk,gj,gm,ho] at h
  obtain⟨p,hp,a⟩:=qL ps r [] h
  obtain⟨z,f,rfl,e⟩:=qU d
  rw[e] at a
  exact b _ p hp z f a
theorem yV {xs:List ak} {x:ak} {l:List aw} (e:xs.length≤1048576) (a:(xs.map (·.Id)).Nodup) (hm:x∈xs):∀ (ns:List az),kC x.F l 1 ns (eT (gB x.Id xs) ns l)=eT xs ns l
 | []=>rfl
 | p :: ns=>by
  have b:=yV (l:=l) e a hm ns
  have h1:=vR p l xs
  unfold eT at b ⊢
  rw[hL,hL,kC,b]
  congr 1
  have d:=BH (fun y=>(bz p y.F l).2) xs a hm
  unfold ta at h1 ⊢
  split
  ·rename_i c
   simp only[c,if_true] at d
   rw[wr OV OV];omega
  ·rename_i c
   simp only[c,gb,if_false] at d
   omega
theorem zN {xs:List ak} {x:ak} {r:ah} {w:aH} (g:xs.length≤1048576) (i:(xs.map (·.Id)).Nodup) (hm:x∈xs) (s:w.Levels.length=(pos r.Pats).length) (h:wy (gB x.Id xs) r w) :
  ∀ k L,(cZ xs (pos r.Pats) (neg r.Pats) x.F 1 w).Levels[k]?=some L→Has (okR (gB x.Id xs) (pos r.Pats)) (k+1) (fy L.Toks)∧∀ t∈L.Toks,t.Hits=iX xs (pos r.Pats) (neg r.Pats) k t.Ids:=by
 have key:∀ q,okR (gB x.Id xs) (pos r.Pats) q=true→okB xs (pos r.Pats) q=okB (gB x.Id xs) (pos r.Pats) q:=fun q j=>(xZ ((yg q).1 j).2).symm
 have l:∀ k L,w.Levels[k]?=some L→k≠w.Levels.length - 1→Has (okR (gB x.Id xs) (pos r.Pats)) (k+1) (fy L.Toks)∧∀ t∈L.Toks,t.Hits=iX xs (pos r.Pats) (neg r.Pats) k t.Ids:=fun k L a hk=>by
  obtain⟨h1,c⟩:=h k L a
  refine⟨h1,fun t b=>?_⟩
  have:=(gI.1 a).1
  rw[c t b]
  unfold iX
  rw[if_neg OV,if_neg OV]
 intro k L a
 unfold cZ at a
 split at a
 ·rename_i M d
  simp only at a
  rw[List.getElem?_set] at a
  split at a
  ·rename_i e
   split at a
   ·simp only[Option.some.injEq] at a
    subst a
    subst e
    obtain⟨h1,c⟩:=h _ M d
    have v:=(gI.1 d).1
    refine⟨?_,fun t b=>?_⟩
    ·unfold fy at h1 ⊢
     rw[rC];exact h1
    ·simp only at b
     unfold jS at b
     obtain⟨u,hu,rfl⟩:=hG.1 b
     have m:=c u hu
     have f:=(Has.len h1 u hu).2
     have hk:=key _ f
     have n:(okB xs (pos r.Pats) u.Ids).2=true:=by rw[hk];exact f
     rw[if_pos n]
     simp only
     rw[m,hk]
     unfold iX
     rw[if_pos OV,if_pos OV,yV g i hm,hk]
   ·cases a
  ·rename_i e
   exact l k L a fun o=>e o.symm
 ·rename_i p
  have:=List.getElem?_eq_none_iff.1 p
  have:=(gI.1 a).1
  omega
theorem E6 {xs:List ak} {x:ak} {as:List bk} {r:ah} {c:aG} {w:aH} (d:xs.length≤1048576) (j:(xs.map (·.Id)).Nodup) (hm:x∈xs) (f:w.Levels.length=(pos r.Pats).length)
  (l:∀ k p,(pos r.Pats)[k]?=some p→∀ y∈xs,dK (aX p) y.F=true→y.Id∈qG as c k) (m:∀ k,k < (pos r.Pats).length→(qG as c k).Nodup) (h:wy (gB x.Id xs) r w):wy xs r (nw xs as x.F x.Id r c w):=by
 have g:=zN d j hm f h
 have hlen:(cZ xs (pos r.Pats) (neg r.Pats) x.F 1 w).Levels.length=w.Levels.length:=by unfold cZ;split<;>simp
 have G:=GO (xs:=xs) (ps:=pos r.Pats) (x:=x) (A:=qG as c) l m
 have n:okR (gB x.Id xs) (pos r.Pats) []=true:=by unfold okR okB;simp[be]
 have e:=uZ (xs:=xs) (ps:=pos r.Pats) (ns:=neg r.Pats) (id:=x.Id) (A:=qG as c) (cZ xs (pos r.Pats) (neg r.Pats) x.F 1 w).Levels 0 [] [] [[]] [] (fun _=>⟨rfl,rfl⟩) (fun e=>absurd rfl e)
 have o:=AT G n (Ls:=(cZ xs (pos r.Pats) (neg r.Pats) x.F 1 w).Levels.map fun L=>fy L.Toks) (by rw[p4,hlen,f];exact hA _) (fun i L a=>by
  rw[nn,Option.map_eq_some_iff] at a
  obtain⟨M,b,rfl⟩:=a
  exact (g i M b).1)
 intro k L a
 refine⟨o k _ ?_,?_⟩
 ·rw[← e,nn]
  unfold nw at a
  rw[show (lS xs (pos r.Pats) (neg r.Pats) x.Id (qG as c) 0 (cZ xs (pos r.Pats) (neg r.Pats) x.F 1 w).Levels [] [])[k]?=some L from a]
  rfl
 ·have:=uT (xs:=xs) (ps:=pos r.Pats) (ns:=neg r.Pats) (id:=x.Id) (A:=qG as c) d (cZ xs (pos r.Pats) (neg r.Pats) x.F 1 w).Levels 0 [] [] OW OW (fun i M b t hm=>by
   obtain⟨h1,q⟩:=g i M b
   rw[ho]
   exact⟨(Has.len h1 t hm).1,q t hm⟩) k L a
  rwa [ho] at this
theorem wC {x:ak} {xs:List ak}:∀ (as:List ax),cS x.F x.Id as (as.map fun a=>⟨(xs.filter fun x=>dK a x.F).map (·.Id)⟩)=as.map fun a=>⟨(xs.filter fun x=>dK a x.F).map (·.Id)++if dK a x.F=true then [x.Id] else []⟩
 | []=>rfl
 | a :: as=>by
  rw[hL,hL,cS,wC as]
  congr 1
  cases dK a x.F<;>simp
theorem GX {d:bf} {n:bH} {m:aJ} {xs:List ak} {x:ak} {nx:Int} {j:Nat} (F:xs.length≤1048576) (f:(xs.map (·.Id)).Nodup) (hm:x∈xs) (z:Ats n.Alphas n.Chains d.Rules) (t:m3 d n j m) (h:rF d n (gB x.Id xs) m) :
  ∀ (i:Nat) (r:ah) (w:aH),d.Rules[i]?=some r→(xf d n m ⟨xs,nx⟩ x.Id).Rules[i]?=some w→wy xs r w:=by
 have G:=rT xs f hm
 have H:=sv (g:=nw xs (cS x.F x.Id n.Alphas m.Alphas) x.F x.Id) d.Rules n.Chains m.Rules t.lr.symm (by rw[z.len,t.lr])
 intro i r v o l
 unfold xf at l
 simp only[G] at l
 obtain⟨T,c,w,A,a2,a3,rfl⟩:=H.2 i v l
 rw[o] at A
 cases A
 have B:∀ k p,(pos r.Pats)[k]?=some p→qG (cS x.F x.Id n.Alphas m.Alphas) c k=((gB x.Id xs).filter fun y=>dK (aX p) y.F).map (·.Id)++if dK (aX p) x.F=true then [x.Id] else []:=fun k p hp=>by
  obtain⟨I,K⟩:=gI.1 o
  obtain⟨L,M⟩:=gI.1 a2
  have u:=(z.get i L I).1
  rw[M,K] at u
  obtain⟨C,N⟩:=gI.1 hp
  have D:k < c.Pos.length:=by rw[u.len];exact C
  have O:=u.get k D C
  obtain⟨a0,_,P⟩:=a8 O
  have Q:idx (cS x.F x.Id n.Alphas m.Alphas) c.Pos[k]=some ⟨((gB x.Id xs).filter fun y=>dK (aX p) y.F).map (·.Id)++if dK (aX p) x.F=true then [x.Id] else []⟩:=by
   rw[h.al]
   unfold oI
   rw[wC n.Alphas]
   unfold idx
   rw[if_pos a0,nn,P,← N]
   rfl
  exact (ub (ag D) Q).symm
 refine E6 F f hm (t.rows i r w o a3).1 (fun k p hp y q E=>?_) (fun k hk=>?_) (h.rows i r w o a3)
 ·rw[B k p hp,gf]
  by_cases c:y.Id=x.Id
  ·have e:=rT xs f q
   have R:y.F=x.F:=by
    have l:=rT xs f hm
    rw[c,l] at e
    exact (congrArg Prod.fst e).symm
   rw[← R,if_pos E]
   exact .inr (by simp[c])
  ·exact .inl (hG.2 ⟨y,l0.2 ⟨l0.2 ⟨q,by simp[c]⟩,E⟩,rfl⟩)
 ·rw[B k _ (gx hk),List.nodup_append]
  refine⟨List.Nodup.sublist (List.Sublist.map _ ((List.filter_sublist).trans (List.filter_sublist))) f,by split<;>simp,fun a S b s e=>?_⟩
  subst e
  split at s
  ·simp only[j3] at s
   subst s
   obtain⟨y,q,e⟩:=hG.1 S
   have:=(l0.1 (l0.1 q).1).2
   simp[e] at this
  ·cases s
theorem HE {N:Nat} (f:1099000000000≤N) {d:bf} {m:aJ} {s:ae} (b:iq d=true) (g:pA d) (h:lE s) (hu:pJ s.Items) {j:Nat} (l:j≤40) (a:m3 d (bB d) j m) (n:∀ (i:Nat) (r:ah) (w:aH),d.Rules[i]?=some r→m.Rules[i]?=some w→wy s.Items r w):ki N d m s=some (dC s.Items 0 d.Rules):=by
 rw[Fh f b g h l a,Bz hu d.Rules m.Rules 0 a.lr.symm (kX b) fun k r w c e=>⟨(a.rows k r w c e).1,n k r w c e⟩]
theorem Cw {N:Nat} (e:1099000000000≤N) (d:bf) (s:ae) (c:iq d=true) (f:pA d) (l:s.Items.length≤40) (g:∀ x∈s.Items,x.F.Fields.length≤1048576):∀ (rest done:List ak) (k:Nat) (m:aJ),rest.length < k→s.Items=done++rest→m3 d (bB d) done.length m →
  iN N d s (bB d) k m.Alphas m.Rules (done.length:Int)=some (vw d (bB d) s.Next done rest m)
 | [],done,k,m,hk,a,h=>by
  obtain⟨k,rfl⟩:∃ j,k=j+1:=⟨k - 1,by simp at hk;omega⟩
  have c1:decide ((done.length:Int) < (s.Items.length:Int))=false:=decide_eq_false (by rw[a];simp)
  simp only[iN,c1,gb,if_false,vw]
 | x :: t,done,k,m,hk,a,h=>by
  obtain⟨k,rfl⟩:∃ j,k=j+1:=⟨k - 1,OV⟩
  simp only[gj] at hk
  have q:s.Items.length=done.length+(t.length+1):=by rw[a];simp
  have c1:decide ((done.length:Int) < (s.Items.length:Int))=true:=decide_eq_true OV
  have n:idx s.Items (done.length:Int)=some x:=by rw[a];exact du _ _ _
  have o:ssl s.Items 0 ((done.length+1:Nat):Int)=some (done++[x]):=by
   rw[Ck OV,a]
   congr 1
   rw[show done++x :: t=(done++[x])++t by simp,List.take_left' OW]
  have ok:=vX (s:=⟨done++[x],s.Next⟩) (id:=x.Id) c f (by simp;omega) (fun y b=>g y (by rw[a];simp at b ⊢;rcases b with b | b<;>simp[b])) OV h
  have p:(bB d).Chains.length=d.Rules.length:=(oH (jh c)).2.1.len
  have h1:=tD (s:=⟨done++[x],s.Next⟩) (id:=x.Id) OV (by simp;omega) p h
  have i:=Cw e d s c f l g t (done++[x]) k (xf d (bB d) m ⟨done++[x],s.Next⟩ x.Id) OV (by rw[a];simp) (by simpa using h1)
  simp only[gk,gj,gm,ho] at i
  simp only[iN,c1,if_true,n,o,fI,wr1 done.length OV,Lb e d (bB d) _ _ x.Id ok.ok]
  exact i
theorem yb {d:bf} {m:aJ} {j:Nat} (b:iq d=true) (e:j≤40) (a:m3 d (bB d) j m):DL m:=by
 obtain⟨⟨f,z2⟩,z3,z4⟩:=rA (jh b)
 have h1:m3 d ⟨[],[]⟩ j ⟨[],m.Rules⟩:=⟨rfl,a.lr,OW,a.rows⟩
 have c:=(Fo b OW h1).sz e
 exact⟨⟨by have:=a.la;omega,fun i hm=>by have:=a.al i hm;omega⟩,c.2.1,c.2.2⟩
theorem EP {N:Nat} (a:1099000000000≤N) {d:bf} {m:aJ} {s:ae} (l:pA d) (n:lE s) (b:iq d=true) (e:fx s=true) {j:Nat} (q:j≤40) (o:m3 d (bB d) j m) (r:rF d (bB d) s.Items m):lA N d m s=some true:=by
 have f:s.Items.length≤40:=by
  unfold fx at e
  simp only[ha,decide_eq_true_eq] at e
  exact e.2.1
 have g:=jh b
 have h:=(oH g).2.1
 obtain⟨⟨t,z2⟩,z3,z4⟩:=rA g
 have i:=ym h
 have k:=Cw a d s b l f (fun x p=>(n.2 x p).2.1) s.Items [] N (lM (bB d)) OV rfl i
 simp only[gm,l4] at k
 have hinv:=J5 (nx:=s.Next) h.len s.Items [] (lM (bB d)) (by simpa using f) i
 have hH:=NO (nx:=s.Next) h s.Items [] (lM (bB d)) (by simpa using f) (by simpa using lN e) i Lm
 simp only[hz,gm,ho] at hinv hH
 have u:=Hm a (bB d) t z3 (fun c v=>(z4 c v).1)
 generalize p:vw d (bB d) s.Next [] s.Items (lM (bB d))=x at k hinv hH
 have w:iN N d s (bB d) N (lM (bB d)).Alphas (lM (bB d)).Rules 0=some x:=k
 unfold lA
 simp only[IJ a d l,b,fI,if_true,y0 a s n,e]
 unfold uc
 simp only[FX a d g,fI,u,w,H8 a m x (yb b q o) (yb b f hinv),K0 o hinv r hH]
theorem JM {N:Nat} (d:1099000000000≤N) (x y:List aw) (f:x.length≤4294967296):dX N x y=some (decide (x=y)):=by
 unfold dX
 by_cases c:x.length=y.length
 ·rw[if_neg (by simp;omega)]
  refine (rj (ct N x y) x y c OV (fun a b=>some (decide (a=b))) (fun a _ b _=>rfl) (fun k i=>by simp only[ct,Bq,fI]) N 0 OV OV).trans ?_
  simp
 ·rw[if_pos (by simp;omega)]
  have : ¬ x=y:=fun e=>c (by rw[e])
  simp[this]
theorem GI (x y:a7):decide (x=y)=(un x y && decide (x.Binds=y.Binds)):=by
 obtain⟨a,b,c⟩:=x
 obtain⟨d,e,f⟩:=y
 simp only[un,a7.mk.injEq,← Bool.decide_and,and_assoc]
def Lp (l:List a7):Prop:=l.length≤1048576∧∀ m∈l,m.Ids.length≤1048576∧m.Binds.length≤1048576
theorem AA {N:Nat} (f:1099000000000≤N) (x y:List a7) (d:Lp x):mA N x y=some (decide (x=y)):=by
 have h:=d.1
 have key:bg N x y (fW N)=some (decide (x=y)):=by
  unfold bg
  by_cases c:x.length=y.length
  ·rw[if_neg (by simp;omega)]
   refine (rj (aT N x y (fW N)) x y c OV (fW N) (fun a g b _=>?_) (fun k i=>rfl) N 0 OV OV).trans ?_
   ·obtain⟨h1,j⟩:=d.2 a g
    unfold fW
    rw[LW OV a b h1,fI,GI]
    cases un a b with
    | false=>rfl
    | true=>simp only[if_true,JM f a.Binds b.Binds OV,fI,hZ]
   ·simp
  ·rw[if_pos (by simp;omega)]
   have : ¬ x=y:=fun e=>c (by rw[e])
   simp[this]
 unfold mA
 rw[key,fI]
theorem Nm {P:a7→Prop} {xs:List ak}:∀ (t:List ah) (i:Nat),(∀ r∈t,∀ m∈jw r xs,∀ j:Nat,P (oY j m))→∀ m∈dC xs i t,P m
 | [],i,_,m,hm=>by simp[dC] at hm
 | r :: t,i,h,m,hm=>by
  unfold dC at hm
  rcases gf.1 hm with hm | hm
  ·obtain⟨x,a,rfl⟩:=hG.1 hm
   exact h r OW x a i
  ·exact Nm t (i+1) (fun y b=>h y (by simp[b])) m hm
theorem Hg {d:bf} {s:ae} (a:iq d=true) (b:fx s=true):Lp (dC s.Items 0 d.Rules):=by
 have g:=wK a
 have c:=kX a
 have i:=xv (xs:=s.Items) (M:=64000) d.Rules 0 fun r h=>AO (c r h) b
 have hm:=Nm (xs:=s.Items) (P:=fun m=>m.Ids.length≤1048576∧m.Binds.length≤1048576) d.Rules 0 fun r h m hm j=>by
  have e:=Fg (c r h) b
  have f:=C7 (JY r s.Items) s.Items (r.Pats.take (ao r.Pats)) [] [] m hm
  have k:=rX (ao r.Pats) r.Pats
  have l:=e.sa
  have n:=e.pl
  rw[j4] at f
  simp only[gm] at f
  show m.Ids.length≤1048576∧m.Binds.length≤1048576
  omega
 exact⟨OV,hm⟩
theorem Hc {N:Nat} (a:1099000000000≤N) (r:ah) (s:ae) (l:List aw) (d:r.Pats.length≤1048576) (hp:∀ p∈r.Pats,p.Args.length≤1048576) (b:s.Items.length≤1048576) (c:l.length≤2147483648):oa N r s l=some (nf r.Pats s.Items l):=by
 unfold oa
 refine lp0 a r.Pats OV (gz N r s l) (fun t=>some (nf t s.Items l)) (fun n i x t g1 g2 g3 g4 g5 g6 g7=>?_) (fun n i g1 g2=>?_)
 ·simp only[gz,g5,if_true,g4,fI,IB a x s l (hp x g2) b c,C5,g6,g7,t8]
  unfold nf
  rw[List.any_cons]
  cases (x.Not && s.Items.any fun y=>(bz x y.F l).2)<;>simp
 ·simp only[gz,g2,gb,if_false];rfl
theorem M2 (r:ah) (s:ae) (a:yA r s) (z:s.Items.length ^ (pos r.Pats).length≤1073741824):∀ (k N:Nat) (out:List a7) (ids:List Int) (l:List aw),1099000000001+k≤N→ids.length+k=(pos r.Pats).length→out.length+s.Items.length ^ k≤4294967296 →
  l.length+dE ((pos r.Pats).drop ids.length)≤1048576→fX N out r s ids l=some (out++lJ (yk r s.Items) s.Items ((pos r.Pats).drop ids.length) ids l):=by
 have A:=a.pl
 have B:(pos r.Pats).length≤r.Pats.length:=py _ _
 intro k
 induction k with
 | zero=>
  intro N out ids l j hk b d
  obtain⟨N,rfl⟩:∃ M,N=M+1:=⟨N - 1,OV⟩
  have c1:decide ((ids.length:Int)=((pos r.Pats).length:Int))=true:=decide_eq_true OV
  have m:(pos r.Pats).drop ids.length=[]:=hB OV
  rw[m]
  simp only[fX,qx (show 1099000000000≤N by omega) r false a.pl,z8,fI,c1,if_true,Hc (show 1099000000000≤N by omega) r s l a.pl a.pa a.xl OV,AU (show 1099000000000≤N by omega) r.Conds l (by have:=a.cl;omega) OV,t8,lJ,yk,bm,bw]
  cases (!nf r.Pats s.Items l && r.Conds.all fun c=>holds c l) with
  | true=>
   simp only[if_true,gD (show ids.length≤4294967296 by omega),gD (show l.length≤4294967296 by omega),fI,bV (show out.length+[(⟨0,ids,l⟩:a7)].length≤4294967296 by simp at b ⊢;omega)]
  | false=>simp
 | succ k o=>
  intro N out ids l j hk b d
  obtain⟨N,rfl⟩:∃ M,N=M+1:=⟨N - 1,OV⟩
  have c1:decide ((ids.length:Int)=((pos r.Pats).length:Int))=false:=decide_eq_false OV
  have e:ids.length < (pos r.Pats).length:=by omega
  have p:=hy e
  rw[p] at d ⊢
  rw[eX] at d
  have q:=a.pa _ (l0.1 (hK e)).1
  simp only[fX,qx (show 1099000000000≤N by omega) r false a.pl,z8,fI,c1,gb,if_false,lJ]
  have v:s.Items.length ^ (k+1)=s.Items.length*s.Items.length ^ k:=by rw[Nat.pow_succ,Nat.mul_comm]
  rw[v] at b
  have C:=a.xl
  refine lp' (show 1099000000000≤N by omega) s.Items OV (fun n (u:List a7) i=>f9 N r s ids l (fX N) (pos r.Pats) n u i) (fun t u=>some (u++t.flatMap fun x=>if (bz (pos r.Pats)[ids.length] x.F l).2=true then lJ (yk r s.Items) s.Items ((pos r.Pats).drop (ids.length+1)) (ids++[x.Id]) (bz (pos r.Pats)[ids.length] x.F l).1 else []))
   (fun u t=>u.length+t.length*s.Items.length ^ k≤4294967296) out b (fun n u i x t g1 g2 g3 g4 g5 g6 f g=>?_) (fun n u i g1 g2 f=>?_)
  ·rw[gj,hE] at f
   have D:=lB (pos r.Pats)[ids.length] x.F l
   simp only[f9,g5,if_true,ag e,g4,fI,wl (show 1099000000000≤N by omega) _ x.F l q OV,List.flatMap_cons,g6]
   cases hm:(bz (pos r.Pats)[ids.length] x.F l).2 with
   | true=>
    have w:=uj (vC r s.Items) s.Items ((pos r.Pats).drop (ids.length+1)) (ids++[x.Id]) (bz (pos r.Pats)[ids.length] x.F l).1
    have y:((pos r.Pats).drop (ids.length+1)).length=k:=by rw[List.length_drop];omega
    rw[y] at w
    have h:(ids++[x.Id]).length=ids.length+1:=by simp
    have:=o N u (ids++[x.Id]) (bz (pos r.Pats)[ids.length] x.F l).1 OV OV OV (by rw[h];omega)
    rw[h] at this
    simp only[if_true,bm,gD (show ids.length≤4294967296 by omega),bV (show ids.length+[x.Id].length≤4294967296 by simp;omega),fI,this,nr,g6]
    rw[g _ (by rw[gk];omega),gi]
   | false=>
    simp only[gb,if_false,hz]
    exact g u OV
  ·simp only[f9,g2,gb,if_false];simp
theorem OG {N:Nat} (d:1099400000000≤N) (r:ah) (s:ae) (a:yA r s) (hp:pos r.Pats=r.Pats.take (ao r.Pats)):lV N r s=some (jw r s.Items):=by
 unfold lV jw
 have e:=eh r.Pats
 have h1:=rX (ao r.Pats) r.Pats
 have f:=a.pl
 have g:=a.sa
 have c:=a.nm
 have b:(pos r.Pats).length=ao r.Pats:=by rw[hp,j4];omega
 have:=M2 r s a (by rw[b];exact c) (ao r.Pats) N [] [] [] OV (by simp[b]) (by simp;omega) (by rw[hp];simp;omega)
 rw[this,hp];simp
theorem Nn {N:Nat} (e:1099400000000≤N) (d:bf) (s:ae) (v:d.Rules.length≤1048576) (f:∀ r∈d.Rules,yA r s∧pos r.Pats=r.Pats.take (ao r.Pats)) (M:Nat) (g:∀ r∈d.Rules,(jw r s.Items).length≤M) (j:d.Rules.length*M≤4294967296):rk N d s=some (dC s.Items 0 d.Rules):=by
 unfold rk
 have lp:∀ (n i:Nat) (out:List a7),i≤d.Rules.length→d.Rules.length - i < n→out.length+(d.Rules.length - i)*M≤4294967296→gO N d s n out i=some (out++dC s.Items i (d.Rules.drop i)):=by
  intro n
  induction n with
  | zero=>intro i _ _ h;omega
  | succ n l=>
   intro i out w y o
   by_cases a:i < d.Rules.length
   ·have c1:decide ((i:Int) < (d.Rules.length:Int))=true:=decide_eq_true OV
    obtain⟨c,hp⟩:=f _ (hK a)
    have hm:=g _ (hK a)
    have z:=DP c
    rw[hy a,dC]
    simp only[gO,c1,if_true,ag a,fI,OG e _ s c hp]
    have p:(d.Rules.length - i)*M=M+(d.Rules.length - (i+1))*M:=by
     rw[show d.Rules.length - i=(d.Rules.length - (i+1))+1 by omega,hE];omega
    rw[p] at o
    refine (lp' (show 1099000000000≤N by omega) (jw d.Rules[i] s.Items) OV (fun m (u:List a7) k=>jN N (i:Int) (gO N d s n) (jw d.Rules[i] s.Items) m u k) (fun t u=>some (u++t.map (oY i)++dC s.Items (i+1) (d.Rules.drop (i+1)))) (fun u t=>u.length+t.length+(d.Rules.length - (i+1))*M≤4294967296) out OV (fun m u k x t g1 g2 g3 g4 g5 g6 b q=>?_) (fun m u k g1 g2 b=>?_)).trans OW
    ·simp only[gj] at b
     simp only[jN,g5,if_true,g4,fI]
     rw[show (⟨(i:Int),x.Ids,x.Binds⟩:a7)=oY i x from rfl,bV (show u.length+[oY i x].length≤4294967296 by simp;omega),fI,g6]
     rw[q _ (by simp;omega)];simp
    ·simp only[jN,g2,gb,if_false,wr1 i OV]
     rw[l (i+1) u OV OV (by simp at b;omega)];simp
   ·have c1:decide ((i:Int) < (d.Rules.length:Int))=false:=decide_eq_false OV
    rw[hB OV]
    simp only[gO,c1,gb,if_false,dC,ix]
 have:=lp N 0 [] OV OV (by simpa using j)
 simpa using this
theorem LQ {N:Nat} (c:1099400000000≤N) (d:bf) (s:ae) (e:pA d) (f:lE s):kV N d s=some (sL d s):=by
 unfold kV sL
 rw[IJ OV d e,fI,y0 OV s f]
 cases h1:iq d with
 | false=>simp
 | true=>
  cases b:fx s with
  | false=>simp
  | true=>
   have g:=wK h1
   have a:=kX h1
   have:=Nn c d s OV (fun r h=>⟨Fg (a r h) b,E1 (a r h)⟩) 64000 (fun r h=>AO (a r h) b) OV
   simp[this]
theorem BO {α:Type} {p:α→Option Bool} {q:α→Bool}:∀ (l:List α),(∀ x∈l,p x=some (q x))→zH p l=some (l.filter fun x=>!q x)
 | [],_=>rfl
 | x :: l,h=>by
  have a:=BO l fun y b=>h y (by simp[b])
  simp only[zH,h x OW,a,fI,j8]
  cases q x<;>simp
theorem Av {α:Type} {q:α→Bool} {l:List α} {j:Nat} (h:l.findIdx? q=some j):l.filter (fun x=>!q x)=l.take j++(l.drop (j+1)).filter fun x=>!q x:=by
 obtain⟨a,h1,b⟩:=si.1 h
 have e:l=l.take j++l[j] :: l.drop (j+1):=by rw[← hy a,k0]
 conv=>lhs;rw[e]
 rw[List.filter_append,j8,h1]
 simp only[hI,gb,if_false]
 congr 1
 refine L6.2 fun x c=>?_
 obtain⟨i,d,rfl⟩:=List.getElem_of_mem c
 rw[List.getElem_take]
 have:=b i (by simp at d;omega)
 simpa using this
theorem xK {α:Type} {q:α→Bool} {l:List α} (h:l.findIdx? q=none):l.filter (fun x=>!q x)=l:=by
 refine L6.2 fun x a=>?_
 rw[F0] at h
 simp[h x a]
theorem Ko {N:Nat} (m:1099000000000≤N) (l:List Int) (p:Int→Option Bool) (q:Int→Bool) (hp:∀ x∈l,p x=some (q x)) (f:l.length≤4294967296):eu N l p=some (l.filter fun x=>!q x):=by
 unfold eu gC
 have g:td l=some ():=by unfold td;rw[if_pos f]
 have b:=tm (c8 N l p) l OV q (fun n i x a hm d hw=>by simp only[c8,d,if_true,a,fI,hp x hm,hw]) (fun n i d=>by simp only[c8,d,gb,if_false]) N 0 OV OV
 rw[show ((0:Nat):Int)=0 from rfl,hY] at b
 rw[g,fI,b]
 cases e:l.findIdx? q with
 | none=>simp[xK e]
 | some j=>
  obtain⟨h,_,_⟩:=si.1 e
  have c:decide ((j:Int) = -1)=false:=decide_eq_false OV
  have k:=BO (p:=p) (q:=q) (l.drop (j+1)) (fun x a=>hp x (Pq a))
  simp only[Option.map_some,fI,ho,c,gb,if_false,ag h,hQ,k,Av e]
theorem Jp {N:Nat} (m:1099000000000≤N) (l:List an) (p:an→Option Bool) (q:an→Bool) (hp:∀ x∈l,p x=some (q x)) (f:l.length≤4294967296):dd N l p=some (l.filter fun x=>!q x):=by
 unfold dd eI
 have g:td l=some ():=by unfold td;rw[if_pos f]
 have b:=tm (bA N l p) l OV q (fun n i x a hm d hw=>by simp only[bA,d,if_true,a,fI,hp x hm,hw]) (fun n i d=>by simp only[bA,d,gb,if_false]) N 0 OV OV
 rw[show ((0:Nat):Int)=0 from rfl,hY] at b
 rw[g,fI,b]
 cases e:l.findIdx? q with
 | none=>simp[xK e]
 | some j=>
  obtain⟨h,_,_⟩:=si.1 e
  have c:decide ((j:Int) = -1)=false:=decide_eq_false OV
  have k:=BO (p:=p) (q:=q) (l.drop (j+1)) (fun x a=>hp x (Pq a))
  simp only[Option.map_some,fI,ho,c,gb,if_false,ag h,hQ,k,Av e]
theorem Ec {N:Nat} (f:1099000000000≤N) (l:List Int) (v:Int) (g:l.length≤4294967296):fa N l v=some (decide (v∈l)):=by
 unfold fa jg
 have b:=tm (cT N l v) l OV (fun x=>decide (v=x)) (fun n i x d hm a hw=>by simp only[cT,a,if_true,d,fI,hw]) (fun n i a=>by simp only[cT,a,gb,if_false]) N 0 OV OV
 rw[show ((0:Nat):Int)=0 from rfl,hY] at b
 rw[b]
 cases c:l.findIdx? (fun x=>decide (v=x)) with
 | none=>
  rw[F0] at c
  have : ¬ v∈l:=fun h=>by have:=c v h;simp at this
  simp[this]
 | some j=>
  obtain⟨e,h1,_⟩:=si.1 c
  have:v∈l:=by simp at h1;rw[h1];exact hK e
  simp[this]
theorem HJ {N:Nat} (b:1099000000000≤N) (d:bf) (n:bH) (s:ae) (id:Int) (as:List bk) (g:List aH) (i:Nat) (K:List aH→Int→Option (List bk × List aH)) (r:ah) (c:aG) (w:aH) (A:idx d.Rules (i:Int)=some r) (B:idx n.Chains (i:Int)=some c) (a:SzS r s) (h1:1≤w.Levels.length) (M:w.Levels.length≤(pos r.Pats).length)
  (l:∀ L∈w.Levels,L.Toks.length≤4294967296∧∀ t∈L.Toks,t.Ids.length≤(pos r.Pats).length) (C:∀ L,w.Levels[w.Levels.length - 1]?=some L→∀ t∈L.Toks,t.Hits.length=(neg r.Pats).length∧∀ x∈t.Hits,InR x) :
  fq N d n s id as g (i:Int) K w N w.Levels 0=K (g.set i (jO s.Items (aF s.Items id).1 id r w)) (IntKind.i64.wrap ((i:Int)+1)):=by
 have o:=Ax (r:=r) (c:=c) (as:=as) (s:=s) (id:=id) ⟨a.pl,a.sa,a.pa⟩ a.sl a.fl
 have D:=o.pl
 simp only at D
 have lp:∀ (rest:List ar) (k:Nat) (done:List ar),rest.length < k→w.Levels=done++rest →
   fq N d n s id as g (i:Int) K w k (done.map (iw id)++rest) (done.length:Int)=K (g.set i (jO s.Items (aF s.Items id).1 id r w)) (IntKind.i64.wrap ((i:Int)+1)):=by
  intro rest
  induction rest with
  | nil=>
   intro k done h e
   obtain⟨k,rfl⟩:∃ m,k=m+1:=⟨k - 1,by simp at h;omega⟩
   have E:w.Levels=done:=by simpa using e
   subst E
   have c1:decide ((w.Levels.length:Int) < (w.Levels.length:Int))=false:=decide_eq_false OV
   have j:IntKind.i64.wrap (((w.Levels.map (iw id)++[]).length:Int) - 1)=((w.Levels.length - 1:Nat):Int):=by
    rw[ix,p4,show ((w.Levels.length:Int) - 1)=((w.Levels.length - 1:Nat):Int) by omega]
    exact wr OV OV
   have p:w.Levels.length - 1 < w.Levels.length:=by omega
   have q:w.Levels[w.Levels.length - 1]?=some w.Levels[w.Levels.length - 1]:=gx p
   have u:(w.Levels.map (iw id))[w.Levels.length - 1]?=some (iw id w.Levels[w.Levels.length - 1]):=by rw[nn,q];rfl
   have F:idx (w.Levels.map (iw id)++[]) ((w.Levels.length - 1:Nat):Int)=some (iw id w.Levels[w.Levels.length - 1]):=by rw[ix,mR,u]
   obtain⟨v,z2⟩:=l _ (hK p)
   have O:(iw id w.Levels[w.Levels.length - 1]).Toks.length≤w.Levels[w.Levels.length - 1].Toks.length:=py _ _
   have f:=EQ b ⟨pos r.Pats,neg r.Pats,c,as,s,id⟩ o (iw id w.Levels[w.Levels.length - 1]).Toks (-1) OV (fun t f=>by
    have hm:t∈w.Levels[w.Levels.length - 1].Toks:=(l0.1 f).1
    exact⟨z2 t hm,(C _ q t hm).1⟩)
   simp only[fq,c1,gb,if_false,j,F,fI,lh,A,B,qx b r false a.pl,qx b r true a.pl,z8,Cv,f,hQ]
   unfold jO cZ
   simp only[p4,u,ix]
  | cons L Ls G=>
   intro k done h e
   obtain⟨k,rfl⟩:∃ m,k=m+1:=⟨k - 1,OV⟩
   simp only[gj] at h
   have P:w.Levels.length=done.length+(Ls.length+1):=by rw[e];simp
   have c1:decide ((done.length:Int) < (w.Levels.length:Int))=true:=decide_eq_true OV
   have z:(done.map (iw id)).length=done.length:=by simp
   have H:idx (done.map (iw id)++L :: Ls) (done.length:Int)=some L:=by rw[← z];exact du _ _ _
   have I:∀ y:ar,(done.map (iw id)++L :: Ls).set (done.length:Int).toNat y=(done.map (iw id)++[y])++Ls:=fun y=>by rw[hQ,← z];exact jd _ _ _ _
   obtain⟨v,z2⟩:=l L (by rw[e];simp)
   have j:=Jp b L.Toks (fun a0=>iz N a0 id) (fun t=>decide (id∈t.Ids)) (fun t f=>by
    unfold iz
    rw[Ec b t.Ids id (by have:=z2 t f;omega)];rfl) v
   simp only[fq,c1,if_true,H,fI,j,I,wr1 done.length OV]
   have:=G k (done++[L]) OV (by rw[e];simp)
   simp only[gk,gj,gm,ho,List.map_append,hL,List.map_nil] at this
   exact this
 have:=lp w.Levels N [] OV rfl
 simpa using this
theorem Cn {N:Nat} (o:1099000000000≤N) (d:bf) (n:bH) (m:aJ) (s:ae) (id:Int) (as:List bk) (p:d.Rules.length≤1048576) :
  ∀ (ws:List aH) (b:List ah) (k:Nat) (c:List ah) (a:List aH),ws.length < k→d.Rules=c++b→c.length=a.length→b.length=ws.length→m.Rules.length=a.length+ws.length→n.Chains.length=d.Rules.length →
   (∀ (i:Nat) (r:ah) (w:aH),b[i]?=some r→ws[i]?=some w→SzS r s∧(pos r.Pats).length=ao r.Pats∧1≤w.Levels.length∧w.Levels.length≤(pos r.Pats).length ∧
    (∀ L∈w.Levels,L.Toks.length≤4294967296∧∀ t∈L.Toks,t.Ids.length≤(pos r.Pats).length)∧∀ L,w.Levels[w.Levels.length - 1]?=some L→∀ t∈L.Toks,t.Hits.length=(neg r.Pats).length∧∀ x∈t.Hits,InR x) →
   eB N d n m s id as k (a++ws) (a.length:Int)=some (as,a++nW (jO s.Items (aF s.Items id).1 id) b ws)
 | [],b,k,c,a,hk,h1,e,f,g,l,h=>by
  obtain⟨k,rfl⟩:∃ j,k=j+1:=⟨k - 1,by simp at hk;omega⟩
  have q:b=[]:=oj.1 f
  subst q
  have c1:decide ((a.length:Int) < (m.Rules.length:Int))=false:=decide_eq_false (by rw[g];simp)
  simp only[eB,c1,gb,if_false,nW]
 | w :: ws,[],k,c,a,hk,h1,e,f,g,l,h=>by simp at f
 | w :: ws,r :: b,k,c,a,hk,h1,e,f,g,l,h=>by
  obtain⟨k,rfl⟩:∃ j,k=j+1:=⟨k - 1,OV⟩
  simp only[gj] at hk f g
  have F:d.Rules.length=a.length+(b.length+1):=by rw[h1,← e];simp
  have c1:decide ((a.length:Int) < (m.Rules.length:Int))=true:=decide_eq_true OV
  obtain⟨u,G,v,y,z,A⟩:=h 0 r w rfl rfl
  have B:idx d.Rules (a.length:Int)=some r:=by rw[h1,← e];exact du _ _ _
  have C:idx n.Chains (a.length:Int)=some (n.Chains[a.length]'OV):=ag OV
  simp only[eB,c1,if_true,du,fI]
  rw[HJ o d n s id as (a++w :: ws) a.length _ r _ w B C u v y z A]
  simp only[jd,wr1 a.length OV]
  have:=Cn o d n m s id as p ws b k (c++[r]) (a++[jO s.Items (aF s.Items id).1 id r w]) OV (by rw[h1];simp) (by simp[e]) OV (by simp;omega) l
   (fun i D w' E a3=>h (i+1) D w' (by simpa using E) (by simpa using a3))
  simp only[gk,gj,gm,ho] at this
  rw[this,gi]
  rfl
theorem JR {N:Nat} (f:1099000000000≤N) (d:bf) (n:bH) (m:aJ) (s:ae) (id:Int) (h:DY d m s) (l:n.Chains.length=d.Rules.length):mZ N d n m s id=some ((tv d m s id).Alphas,(tv d m s id).Rules):=by
 have t:=h.al
 have u:=h.rl
 have v:=h.ld
 unfold mZ
 have lp:∀ (is:List bk) (k:Nat) (a:List bk),is.length < k→m.Alphas.length=a.length+is.length→(∀ i∈is,i.L.length≤1048576) →
   fw N d n m s id k (a++is) (a.length:Int)=eB N d n m s id (a++is.map (xV id)) N m.Rules 0:=by
  intro is
  induction is with
  | nil=>
   intro k a b c e
   obtain⟨k,rfl⟩:∃ m,k=m+1:=⟨k - 1,by simp at b;omega⟩
   have c1:decide ((a.length:Int) < (m.Alphas.length:Int))=false:=decide_eq_false (by rw[c];simp)
   simp only[fw,c1,gb,if_false,List.map_nil]
  | cons i is o=>
   intro k a b c e
   obtain⟨k,rfl⟩:∃ m,k=m+1:=⟨k - 1,OV⟩
   simp only[gj] at b c
   have c1:decide ((a.length:Int) < (m.Alphas.length:Int))=true:=decide_eq_true OV
   have p:=Ko f i.L (fun a0=>jW N a0 id) (fun x=>decide (x=id)) (fun x _=>rfl) (by have:=e i OW;omega)
   simp only[fw,c1,if_true,du,fI,p,hQ,jd,wr1 a.length OV]
   have:=o k (a++[xV id i]) OV (by simp;omega) (fun j q=>e j (by simp[q]))
   simp only[gk,gj,gm,ho] at this
   refine Eq.trans this ?_
   rw[hL,gi];rfl
 have h1:=lp m.Alphas N [] OV OW h.ll
 simp only[hz,gm,l4] at h1
 have r:fw N d n m s id N m.Alphas 0=_:=h1
 rw[r]
 have g:=Cn f d n m s id (m.Alphas.map (xV id)) OV m.Rules d.Rules N [] [] OV rfl rfl h.ld OW l h.rows
 simp only[hz,gm,l4] at g
 exact g
def may (d:bf) (n:bH) (m:aJ) (s:ae) (id:Int):Bool:=(iq d && decide (n=bB d)) && (fx s && (xd n m && (aF s.Items id).2))
theorem Lk {N:Nat} (a:1099000000000≤N) (d:bf) (n:bH) (m:aJ) (s:ae) (id:Int) (c:pA d) (e:Hs n) (hm:DL m) (b:lE s):nH N d n m s id=some (may d n m s id):=by
 unfold nH may
 rw[JD a n d c e,fI]
 cases iq d && decide (n=bB d) with
 | false=>simp
 | true=>
  rw[y0 a s b]
  cases fx s with
  | false=>simp
  | true=>
   rw[JS a n m hm]
   cases xd n m with
   | false=>simp
   | true=>simp[tx a s id b.1 (fun x f=>(b.2 x f).2.1)]
theorem N7 {x:Int} (h:WfI .u8 x):0≤x∧x≤255:=by
 unfold WfI Lit.wf at h
 simp only[ha,decide_eq_true_eq] at h
 have a:IntKind.min .u8=0:=by decide
 have b:IntKind.max .u8=255:=by decide
 omega
theorem NF {N:Nat} {b:List Int} (c:b.length≤1048576) (hw:WfL (WfI .u8) b):∃ v,yQ N b 2=some v∧0≤v:=by
 unfold yQ
 by_cases h:(2:Int) < (b.length:Int)
 ·have e:idx b 2=some (b[2]'OV):=ag (xs:=b) (i:=2) OV
  have a:=N7 (hw.2 _ (hK (show 2 < b.length by omega)))
  rw[decide_eq_true h,if_pos rfl,e,fI,wr OV OV]
  exact⟨_,rfl,a.1⟩
 ·rw[decide_eq_false h,if_neg OW]
  refine⟨_,rfl,?_⟩
  rw[wr (show -9223372036854775808≤(2:Int)*31 by omega) OV,wr (show -9223372036854775808≤(b.length:Int)*7 by omega) OV,wr OV OV]
  exact Int.tmod_nonneg 256 OV
theorem Il {d:bf} {m:aJ} {s:ae} {x:ak} {xs:List ak} {j:Nat} (a:iq d=true) (b:fx s=true) (c:x∈s.Items) (e:m3 d (bB d) j m) (f:rF d (bB d) xs m):may d (bB d) m s x.Id=true:=by
 have g:∀ r∈d.Rules,1≤(pos r.Pats).length:=fun r h=>(yu a r h).2.1
 have i:=JZ (oH (jh a)).2.1 e f g
 unfold may
 rw[a,b,i,decide_eq_true rfl,rT s.Items (lN b) c]
 rfl
theorem JA {N:Nat} (e:1099000000000≤N) {d:bf} {m:aJ} {s:ae} {x:ak} {j:Nat} (a:iq d=true) (g:pA d) (f:lE s) (h:fx s=true) (c:x∈s.Items) (n:s.Items.length≤40) (i:j≤40) (b:m3 d (bB d) j m) (k:rF d (bB d) s.Items m) :
  ∃ y,n8 N d (bB d) m s x.Id=some y∧m3 d (bB d) j y∧rF d (bB d) (gB x.Id s.Items) y:=by
 have o:=rA (jh a)
 have l:=yb a i b
 have p:∀ x∈s.Items,x.F.Fields.length≤1048576:=fun x c=>(f.2 x c).2.1
 have ok:=AE (s:=s) (id:=x.Id) a g n p i b
 have q:=(oH (jh a)).2.1.len
 refine⟨tv d m s x.Id,?_,AG b,EF (nx:=s.Next) f.1 (lN h) c b k⟩
 unfold n8
 rw[Hu e m l,fI,Lk e d (bB d) m s x.Id g o l f,fI,Il a h c b k]
 simp only[if_true,JR e d (bB d) m s x.Id ok q,fI,jX]
theorem Ky {N:Nat} (f:1099000000000≤N) {d:bf} {m:aJ} {s:ae} {x:ak} {j:Nat} (a:iq d=true) (g:pA d) (c:lE s) (h:fx s=true) (e:x∈s.Items) (o:s.Items.length≤40) (t:j < 40) (b:m3 d (bB d) j m) (k:rF d (bB d) (gB x.Id s.Items) m) :
  ∃ y,oD N d (bB d) m s x.Id=some y∧m3 d (bB d) (j+1) y∧∀ (i:Nat) (r:ah) (w:aH),d.Rules[i]?=some r→y.Rules[i]?=some w→wy s.Items r w:=by
 have p:=rA (jh a)
 have l:=(oH (jh a)).2.1
 have n:=yb a OV b
 have q:∀ x∈s.Items,x.F.Fields.length≤1048576:=fun x e=>(c.2 x e).2.1
 have ok:=vX (s:=s) (id:=x.Id) a g o q OV b
 refine⟨xf d (bB d) m s x.Id,?_,tD OV c.1 l.len b,GX (nx:=s.Next) c.1 (lN h) e l b k⟩
 unfold oD
 rw[Hu f m n,fI,Lk f d (bB d) m s x.Id g p n c,fI,Il a h e b k]
 simp only[if_true,Lb f d (bB d) m s x.Id ok.ok,fI,kT]
theorem Kh (A B:List ak) (z:ak) (b:((A++z :: B).map (·.Id)).Nodup):gB z.Id (A++z :: B)=A++B:=by
 unfold gB
 rw[List.map_append,hL,List.nodup_append,List.nodup_cons] at b
 obtain⟨_,⟨h1,_⟩,h2⟩:=b
 have c:A.filter (fun y=>!decide (y.Id=z.Id))=A:=L6.2 fun y a=>by
  have:=h2 y.Id (hG.2 ⟨y,a,rfl⟩) z.Id OW
  simp[this]
 have d:B.filter (fun y=>!decide (y.Id=z.Id))=B:=L6.2 fun y a=>by
  have:y.Id≠z.Id:=fun q=>h1 (hG.2 ⟨y,a,q⟩)
  simp[this]
 rw[List.filter_append,j8,decide_eq_true rfl,hI,if_neg OW,c,d]
theorem Mb {xs:List ak} {i:Nat} (a:i < xs.length) (b:(xs.map (·.Id)).Nodup):gB xs[i].Id xs=xs.take i++xs.drop (i+1):=by
 have e:xs.take i++xs[i] :: xs.drop (i+1)=xs:=by rw[← hy a,k0]
 have:=Kh (xs.take i) (xs.drop (i+1)) xs[i] (by rw[e];exact b)
 rw[e] at this
 exact this
theorem GZ {N:Nat} (b:1099000000000≤N) {s:ae} {i:Nat} (f:i < s.Items.length) (a:lE s) (c:fx s=true):o8 N s s.Items[i].Id=some (⟨gB s.Items[i].Id s.Items,s.Next⟩,true):=by
 have g:∀ x∈s.Items,x.F.Fields.length≤1048576:=fun x j=>(a.2 x j).2.1
 have l:=a.1
 have d:=lN c
 have key:iQ N s s.Items[i].Id=some (true,⟨gB s.Items[i].Id s.Items,s.Next⟩):=by
  unfold iQ
  have lp:∀ (n k:Nat),k≤i→i - k < n→dQ N s s.Items[i].Id n (k:Int)=some (true,⟨gB s.Items[i].Id s.Items,s.Next⟩):=by
   intro n
   induction n with
   | zero=>intro k _ h;omega
   | succ n m=>
    intro k h1 p
    have hk:k < s.Items.length:=by omega
    have c1:decide ((k:Int) < (s.Items.length:Int))=true:=decide_eq_true OV
    simp only[dQ,c1,if_true,ag hk,fI,wr1 k (show k≤4611686018427387904 by omega)]
    by_cases e:k=i
    ·subst e
     have s1:ssl s.Items 0 (k:Int)=some (s.Items.take k):=by
      unfold ssl
      rw[if_pos ⟨OV,OV,OV⟩]
      simp
     have s2:ssl s.Items ((k+1:Nat):Int) (s.Items.length:Int)=some (s.Items.drop (k+1)):=by
      unfold ssl
      rw[if_pos ⟨OV,OV,OV⟩]
      simp
     simp only[decide_true,if_true,s1,s2,fI,bV (show (s.Items.take k).length+(s.Items.drop (k+1)).length≤4294967296 by simp;omega),Mb hk d]
    ·have o:s.Items[k].Id≠s.Items[i].Id:=by
      have hp:=List.pairwise_iff_getElem.1 (by
       have h:=d
       unfold List.Nodup at h
       rw[P8] at h
       exact h) k i hk f OV
      exact hp
     simp only[o,decide_false,gb,if_false]
     exact m (k+1) OV OV
  exact lp N 0 OV OV
 unfold o8
 simp only[Kp b s l g,y0 b s a,c,fI,if_true,key,ji]
theorem Oc {N:Nat} (a:1099000000000≤N) (l:List Int) (v:Int) (b:l.length≤4294967296):vI N l v=some (decide (v∈l)):=by
 unfold vI
 refine lp0 a l b (l5 N l v) (fun t=>some (decide (v∈t))) (fun n j x t g1 g2 g3 g4 g5 g6 g7=>?_) (fun n j g1 g2=>?_)
 ·simp only[l5,g5,if_true,g4,fI,g6,g7]
  by_cases h:x=v
  ·simp[h]
  ·have c : ¬ v=x:=fun e=>h e.symm
   simp[h,c]
 ·simp only[l5,g2,gb,if_false];simp
theorem all_nil {t:List ah} (h:∀ r∈t,ja r=true):∀ i,dC [] i t=[]:=by
 induction t with
 | nil=>intro i;rfl
 | cons r t b=>
  intro i
  have h1:0 < (r.Pats.take (ao r.Pats)).length:=by
   have hp:=qK (h r OW)
   unfold iy at hp
   simp only[ha,decide_eq_true_eq] at hp
   have:=eh r.Pats
   rw[j4];omega
  have c:jw r []=[]:=by
   unfold jw
   cases a:r.Pats.take (ao r.Pats) with
   | nil=>rw[a] at h1;simp at h1
   | cons p ps=>simp[lJ]
  rw[dC,c,b (fun q a=>h q (by simp[a]))]
  rfl
theorem FJ {xs:List ak} {id:Int} (hu:pJ (gB id xs)):∀ (t:List ah) (i:Nat) (m:a7),m∈dC (gB id xs) i t→id ∉ m.Ids
 | [],i,m,h=>by simp[dC] at h
 | r :: t,i,m,h=>by
  unfold dC at h
  rcases gf.1 h with h | h
  ·obtain⟨y,a,rfl⟩:=hG.1 h
   obtain⟨_,b,_⟩:=pI hu a
   intro hm
   have:=iE (r.Pats.take (ao r.Pats)) y.Ids [] (by rw[b]) id hm
   obtain⟨z,c,e,_⟩:=qU this
   have:=(l0.1 c).2
   simp[e] at this
  ·exact FJ hu t (i+1) m h
theorem Dz {N:Nat} (H:1099400000000≤N) (b:List Int) (hw:WfL (WfI .u8) b):qj N b=some true:=by
 have a:1099000000000≤N:=by omega
 unfold qj y7
 by_cases o:b.length≤1048576
 ·have c1:decide (1048576 < (b.length:Int))=false:=decide_eq_false OV
  obtain⟨c,I,g0⟩:=M6 a b o
  obtain⟨d,m,s,aa,K,h⟩:=Mx a o g0
  have L:oh N b=some (d,bB d,m,s):=by
   unfold oh
   rw[I,fI,K,fI]
  have e:=Co h.def_
  have f:=CZ (CA h.def_)
  have ab:=h.nx
  have hit:=h.it
  have hlen:=hit.2.1
  have g:lE s:=⟨show s.Items.length≤1048576 by omega,yT hit⟩
  have l:=yo hit OV
  obtain⟨j,hj,p⟩:=h.mem
  have E:=Is a e f g (sf hit) (show j≤40 by omega) p h.has
  simp only[c1,fI,gb,if_false,L]
  by_cases M:s.Items.length=0
  ·have r:=EP a f g e l (show j≤40 by omega) p h.has
   have O:s.Items=[]:=oj.1 M
   have u:dC s.Items 0 d.Rules=[]:=by rw[O];exact all_nil (kX e) 0
   have w:decide ((s.Items.length:Int)=0)=true:=decide_eq_true OV
   simp only[w,if_true,r,fI,E,u,gm,l4,decide_true,kz]
  ·have w:decide ((s.Items.length:Int)=0)=false:=decide_eq_false OV
   obtain⟨v,P,Q⟩:=NF (N:=N) o hw
   obtain⟨q,r,ad,ae⟩:=DR Q (show (0:Int) < (s.Items.length:Int) by omega)
   obtain⟨i,rfl⟩:∃ i:Nat,q=(i:Int):=⟨q.toNat,OV⟩
   have z:i < s.Items.length:=by omega
   have F:=hK z
   obtain⟨x,R,A,B⟩:=JA a e f g l F OV (show j≤40 by omega) p h.has
   have S:=GZ a z g l
   have G:=py (fun y:ak=>!decide (y.Id=s.Items[i].Id)) s.Items
   have n:o5 s.Next (gB s.Items[i].Id s.Items):=⟨hit.1,by have:(gB s.Items[i].Id s.Items).length≤s.Items.length:=G;omega,fun y T=>hit.2.2.1 y (l0.1 T).1,hit.2.2.2.filter _⟩
   have C:lE ⟨gB s.Items[i].Id s.Items,s.Next⟩:=⟨show (gB s.Items[i].Id s.Items).length≤1048576 by have:(gB s.Items[i].Id s.Items).length≤s.Items.length:=G;omega,yT n⟩
   have D:fx ⟨gB s.Items[i].Id s.Items,s.Next⟩=true:=yo (s:=⟨gB s.Items[i].Id s.Items,s.Next⟩) n (by show s.Next≤40;omega)
   have U:=Is a (s:=⟨gB s.Items[i].Id s.Items,s.Next⟩) e f C (sf n) (show j≤40 by omega) A B
   have V:=EP a (s:=⟨gB s.Items[i].Id s.Items,s.Next⟩) f C e D (show j≤40 by omega) A B
   obtain⟨y,W,X,Y⟩:=Ky a e f g l F OV (show j < 40 by omega) A B
   have Z:=HE a e f g (sf hit) (show j+1≤40 by omega) X Y
   have u:sL d ⟨gB s.Items[i].Id s.Items,s.Next⟩=dC (gB s.Items[i].Id s.Items) 0 d.Rules:=by unfold sL;rw[e,D];rfl
   have a1:=LQ H d ⟨gB s.Items[i].Id s.Items,s.Next⟩ f C
   have z1:=Hg e l
   have z2:=Hg e D
   have a6:=AA a _ (dC (gB s.Items[i].Id s.Items) 0 d.Rules) z2
   have a7:=AA a _ (dC s.Items 0 d.Rules) z1
   have a8:=FJ (sf n) d.Rules 0
   simp only[w,gb,if_false,P,r,fI,ag z,R,S,U]
   generalize hX:dC (gB s.Items[i].Id s.Items) 0 d.Rules=now at *
   refine lp0 a now (by have:=z2.1;omega) (i8 N (d,bB d,m,s) s.Items[i] x (⟨gB s.Items[i].Id s.Items,s.Next⟩,true) now) (fun _=>some true) (fun k i' q t g1 g2 g3 g4 g5 g6 g7=>?_) (fun k i' g1 g2=>?_)
   ·simp only[i8,g5,if_true,g4,fI,Oc a q.Ids s.Items[i].Id (by have:=(z2.2 q g2).1;omega),a8 q g2,decide_false,gb,if_false,g6,g7]
   ·simp only[i8,g2,gb,if_false,W,fI,Z,if_true,V,a1,u,a6,decide_true,ko,kg,E,a7]
 ·have c1:decide (1048576 < (b.length:Int))=true:=decide_eq_true OV
  simp only[c1,fI,if_true]
namespace fnWent
theorem law {a:List Int} (w0:(WfL (WfI .u8)) a):qj 1099511627776 a=some true:=Dz OV a w0
end fnWent
end Go.Proofs.YtedmfnmbjglmbaaGreat
