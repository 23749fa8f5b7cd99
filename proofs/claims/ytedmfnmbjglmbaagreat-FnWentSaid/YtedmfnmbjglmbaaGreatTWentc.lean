/- Plain laws, one after the other: PLWent. -/
import Derived.Test.YtedmfnmbjglmbaaGreatTWentb
import Derived.Test.YtedmfnmbjglmbaaGreatPLib
import Derived.Test.YtedmfnmbjglmbaaGreatWWentMod
import Derived.Test.YtedmfnmbjglmbaaGreatWWentPur
open Bool renaming false_eq_true→OY,and_eq_true→P0,not_true→Pb,true_and→Pt
open Int renaming ofNat_lt→Pa,toNat_natCast→Pd,natCast_zero→Pg
open List renaming length_cons→OZ,length_nil→P1,drop_eq_getElem_cons→P3,getElem_mem→P4,mem_map→P5,mem_filter→P6,length_append→P7,map_cons→P8,getElem?_eq_getElem→Pc,getElem?_eq_some_iff→Pf,drop_of_length_le→Ph,length_take→Pj,nil_append→Pm,append_nil→Pn,mem_append→Po,mem_singleton→Pp,length_eq_zero_iff→Pq,length_map→Pr,filter_cons→Ps,Nodup→Pu,append_assoc→Pv,getElem?_map→Pw,findIdx?_eq_some_iff_getElem→Px,filter_eq_self→Py,all_cons→Pz,pairwise_map→PA,length_filter_le→PC,drop_zero→PD,take_append_drop→PE,findIdx?_eq_none_iff→PF,mem_of_mem_drop→PG
open Nat renaming zero_add→P2,le_refl→P9,le_trans→Pe,succ_mul→Pk,pow_le_pow_right→PB
open Option renaming bind_some→OX
namespace Go.Proofs.YtedmfnmbjglmbaaGreat
open Eng
set_option linter.unusedVariables false
set_option linter.unusedSimpArgs false
theorem Ig {a b:Prop} [Decidable a] [Decidable b]:(if decide a=true then some (decide b) else some false)=some (decide (a∧b)):=by
 by_cases h:a<;>simp [h]
theorem LJ {N f a m b s:Nat} {p:a7→a7→Option Int} {lt:a7→a7→Bool} {RF:List a7→Int→Int→Int→(a7→a7→Option Int)→Option (List a7)} (u:List a7) (hu:u.length≤4294967296) (hm:m < b) (h:a < m) (i:b≤u.length) (j:s≤(a+b) / 2)
  (d:(a+b) / 2 < (a+b) / 2+m - s→(a+b) / 2+m - s < b→RF u (((a+b) / 2:Nat):Int) (((a+b) / 2+m - s:Nat):Int) (b:Int) p=some (nF lt f u ((a+b) / 2) ((a+b) / 2+m - s) b)) :
  cC N (a:Int) (m:Int) (b:Int) p RF (s:Int) u=some (if (a+b) / 2 < (a+b) / 2+m - s∧(a+b) / 2+m - s < b then nF lt f u ((a+b) / 2) ((a+b) / 2+m - s) b else u):=by
 have e:((((a+b) / 2:Nat):Int) < (((a+b) / 2+m - s:Nat):Int))=((a+b) / 2 < (a+b) / 2+m - s):=propext Pa
 have g:((((a+b) / 2+m - s:Nat):Int) < (b:Int))=((a+b) / 2+m - s < b):=propext Pa
 unfold cC
 simp only [Dw (x:=a) (y:=b) OV,wA (x:=(a+b) / 2) (y:=m) OV,wS (x:=(a+b) / 2+m) (y:=s) OV OV,Ig,OX,e,g]
 by_cases c:(a+b) / 2 < (a+b) / 2+m - s∧(a+b) / 2+m - s < b
 ·simp only [c,and_self,decide_true,if_true,d c.1 c.2,OX]
 ·simp only [c,decide_false,OY,if_false]
theorem Hk {N f a m b s:Nat} {p:a7→a7→Option Int} {lt:a7→a7→Bool} {RF:List a7→Int→Int→Int→(a7→a7→Option Int)→Option (List a7)} (l u:List a7) (h:u.length=l.length) (i:∀ x∈u,x∈l) (hu:l.length≤4294967296) (hm:m < b) (n:a < m) (o:b≤l.length) (q:s≤(a+b) / 2) (E:b - a≤f+1)
  (j:∀ (v:List a7) (e g d:Nat),v.length=l.length→(∀ x∈v,x∈l)→e < g→g < d→d≤l.length→d - e≤f→RF v (e:Int) (g:Int) (d:Int) p=some (nF lt f v e g d)) :
  cB N (a:Int) (m:Int) (b:Int) p RF (s:Int) u=some (if (a+b) / 2 < (a+b) / 2+m - s∧(a+b) / 2+m - s < b then nF lt f (if a < s∧s < (a+b) / 2 then nF lt f u a s ((a+b) / 2) else u) ((a+b) / 2) ((a+b) / 2+m - s) b else (if a < s∧s < (a+b) / 2 then nF lt f u a s ((a+b) / 2) else u)):=by
 have r:((a:Int) < (s:Int))=(a < s):=propext Pa
 have t:((s:Int) < (((a+b) / 2:Nat):Int))=(s < (a+b) / 2):=propext Pa
 unfold cB
 simp only [Dw (x:=a) (y:=b) OV,Ig,OX,r,t]
 have k:=λ(v:List a7) (h1:v.length=l.length) (w:∀ x∈v,x∈l)=>LJ (N:=N) (f:=f) (lt:=lt) (RF:=RF) (p:=p) (s:=s) v OV hm n OV q (λz A=>j v _ _ _ h1 w z A o OV)
 by_cases c:a < s∧s < (a+b) / 2
 ·obtain ⟨B,C⟩:=rq (lt:=lt) f u a s ((a+b) / 2)
  simp only [c,and_self,decide_true,if_true,j u a s ((a+b) / 2) h i c.1 c.2 OV OV,OX]
  exact k _ (by rw [B,h]) (λx D=>i x (C x D))
 ·simp only [c,decide_false,OY,if_false]
  exact k u h i
theorem DZ {N f a m b:Nat} {p:a7→a7→Option Int} {lt:a7→a7→Bool} {RF:List a7→Int→Int→Int→(a7→a7→Option Int)→Option (List a7)} (l:List a7) (u:tJ p lt l) (hu:l.length≤4294967296) (z:l.length < N) (hm:m < b) (k:a < m) (n:b≤l.length) (o:b - a≤f+1)
  (q:∀ (v:List a7) (r t d:Nat),v.length=l.length→(∀ x∈v,x∈l)→r < t→t < d→d≤l.length→d - r≤f→RF v (r:Int) (t:Int) (d:Int) p=some (nF lt f v r t d)) :
  ∀ (g fuel i j:Nat),j - i < g→j - i < fuel→i≤j→j≤(a+b) / 2→j≤m→a≤i→(a+b) / 2+m≤b+i →
   bt N l (a:Int) (m:Int) (b:Int) p RF fuel (i:Int) (j:Int)=some (
    let s:=bsr (λc=>!um lt l ((a+b) / 2+m - 1 - c) c) g i j
    let e:=(a+b) / 2+m - s
    let l1:=if s < m∧m < e then rot l m (e - s) (m - s) (e - m) else l
    let l2:=if a < s∧s < (a+b) / 2 then nF lt f l1 a s ((a+b) / 2) else l1
    if (a+b) / 2 < e∧e < b then nF lt f l2 ((a+b) / 2) e b else l2)
 | 0,_,_,_,h,_,_,_,_,_,_=>by omega
 | g+1,0,_,_,_,h,_,_,_,_,_=>by omega
 | g+1,fuel+1,i,j,h1,K,L,C,D,E,F=>by
  rw [bt,bsr]
  by_cases c:i < j
  ·have c1:decide ((i:Int) < (j:Int))=true:=decide_eq_true OV
   have A:(i+j) / 2 < l.length:=by omega
   have hp:(a+b) / 2+m - 1 - (i+j) / 2 < l.length:=by omega
   obtain ⟨v,v1,v2⟩:=u.at_ hp A
   simp only [c1,if_true,Dw (x:=a) (y:=b) OV,Dw (x:=i) (y:=j) OV,wA (x:=(a+b) / 2) (y:=m) OV,wS1 (x:=(a+b) / 2+m) OV OV,wS (x:=(a+b) / 2+m - 1) (y:=(i+j) / 2) OV OV,ag A,ag hp,OX,v1,if_pos c,v2]
   by_cases B:v < 0
   ·simp only [B,decide_true,Pb,OY,if_false]
    exact DZ l u hu z hm k n o q g fuel _ _ OV OV OV OV OV E F
   ·simp only [B,decide_false,Bool.not_false,if_true,wr1 ((i+j) / 2) OV]
    exact DZ l u hu z hm k n o q g fuel _ _ OV OV OV C D OV OV
  ·have c1:decide ((i:Int) < (j:Int))=false:=decide_eq_false OV
   have G:((i:Int) < (m:Int))=(i < m):=propext Pa
   have H:((m:Int) < (((a+b) / 2+m - i:Nat):Int))=(m < (a+b) / 2+m - i):=propext Pa
   simp only [c1,OY,if_false,if_neg c,Dw (x:=a) (y:=b) OV,wA (x:=(a+b) / 2) (y:=m) OV,wS (x:=(a+b) / 2+m) (y:=i) OV OV,Ig,OX,G,H]
   by_cases c2:i < m∧m < (a+b) / 2+m - i
   ·have I:=Hn (N:=N) (a:=i) (m:=m) (b:=(a+b) / 2+m - i) p l OV c2.1 c2.2 OV hu
    simp only [c2,and_self,decide_true,if_true,I,OX]
    exact Hk l _ (Bf _ _ _ _ _) (λx w=>y5 _ _ _ _ w) hu hm k n OV o q
   ·simp only [c2,decide_false,OY,if_false]
    exact Hk l l rfl (λx w=>w) hu hm k n OV o q
theorem E2 {p:a7→a7→Option Int} {lt:a7→a7→Bool}:∀ (f N:Nat) (l:List a7) (a m b:Nat),tJ p lt l→l.length≤4294967296→l.length+f < N→a < m→m < b→b≤l.length→b - a≤f →
  aC N l (a:Int) (m:Int) (b:Int) p=some (nF lt f l a m b)
 | 0,_,_,_,_,_,_,_,_,h1,k,_,i=>by omega
 | f+1,0,_,_,_,_,_,_,h,_,_,_,_=>by omega
 | f+1,N+1,l,a,m,b,g,j,s,h1,k,i,q=>by
  rw [aC,wS (x:=m) (y:=a) OV OV,wS (x:=b) (y:=m) OV OV,Dw (x:=a) (y:=b) OV]
  unfold nF
  by_cases c1:m - a=1
  ·have d1:decide (((m - a:Nat):Int)=1)=true:=decide_eq_true OV
   rw [d1,if_pos rfl,if_pos c1]
   exact Hx g OV j OV (b - m+1) N m b OV OV h1 OV i
  ·have d1:decide (((m - a:Nat):Int)=1)=false:=decide_eq_false OV
   rw [d1,if_neg OW,if_neg c1]
   by_cases c2:b - m=1
   ·have d2:decide (((b - m:Nat):Int)=1)=true:=decide_eq_true OV
    rw [d2,if_pos rfl,if_pos c2]
    exact Hr g OV j OV (m - a+1) N a m OV OV OV (P9 _)
   ·have d2:decide (((b - m:Nat):Int)=1)=false:=decide_eq_false OV
    rw [d2,if_neg OW,if_neg c2]
    have r:∀ (v:List a7) (d e c:Nat),v.length=l.length→(∀ x∈v,x∈l)→d < e→e < c→c≤l.length→c - d≤f→aC N v (d:Int) (e:Int) (c:Int) p=some (nF lt f v d e c):=
     λv d e c g1 g2 g3 g4 g5 g6=>E2 f N v d e c (g.sub g2) OV OV g3 g4 OV g6
    have n:=DZ (N:=N) (f:=f) (a:=a) (m:=m) (b:=b) (lt:=lt) l g j OV k h1 i q r
    by_cases o:(a+b) / 2 < m
    ·have d3:decide ((((a+b) / 2:Nat):Int) < (m:Int))=true:=decide_eq_true OV
     simp only [d3,if_true,if_pos o,bM,wA (x:=(a+b) / 2) (y:=m) OV,wS (x:=(a+b) / 2+m) (y:=b) OV OV]
     exact n ((a+b) / 2 - ((a+b) / 2+m - b)+1) N ((a+b) / 2+m - b) ((a+b) / 2) OV OV OV (P9 _) OV OV OV
    ·have d3:decide ((((a+b) / 2:Nat):Int) < (m:Int))=false:=decide_eq_false OV
     simp only [d3,OY,if_false,if_neg o,bM]
     exact n (m - a+1) N a m OV OV OV OV (P9 _) (P9 _) OV
section
variable {α:Type} {lt:α→α→Bool}
theorem AF (s:Nat):∀ (f:Nat) (l:List α) (a n:Nat),(zb lt s f l a n).length=l.length∧∀ x∈zb lt s f l a n,x∈l
 | 0,l,a,n=>⟨rfl,λx h=>h⟩
 | f+1,l,a,n=>by
  unfold zb
  split
  ·obtain ⟨h1,b⟩:=ug (lt:=lt) (s+1) l a (a+1) (a+s)
   obtain ⟨g1,g2⟩:=AF s f (vg lt (s+1) l a (a+1) (a+s)) (a+s) n
   exact ⟨by rw [g1,h1],λx h=>b x (g2 x h)⟩
  ·exact ug _ _ _ _ _
theorem CR (F s:Nat):∀ (f:Nat) (l:List α) (a n:Nat),(pas lt F s f l a n).length=l.length∧∀ x∈pas lt F s f l a n,x∈l
 | 0,l,a,n=>⟨rfl,λx h=>h⟩
 | f+1,l,a,n=>by
  unfold pas
  split
  ·obtain ⟨h1,b⟩:=rq (lt:=lt) F l a (a+s) (a+2*s)
   obtain ⟨g1,g2⟩:=CR F s f (nF lt F l a (a+s) (a+2*s)) (a+2*s) n
   exact ⟨by rw [g1,h1],λx h=>b x (g2 x h)⟩
  ·split
   ·exact rq _ _ _ _ _
   ·exact ⟨rfl,λx h=>h⟩
end
variable {p:a7→a7→Option Int} {lt:a7→a7→Bool}
theorem I1 {N a i:Nat} (K:List a7→Int→Option (List a7)):∀ (f fuel:Nat) (l:List a7) (j:Nat),j - a < f→j - a < fuel→j < l.length→tJ p lt l→l.length≤4294967296 →
  bI N (a:Int) p (i:Int) K fuel l (j:Int)=K (zQ lt f l a j) (IntKind.i64.wrap ((i:Int)+1))
 | 0,_,_,_,h,_,_,_,_=>by omega
 | f+1,0,_,_,_,h,_,_,_=>by omega
 | f+1,fuel+1,l,j,h1,r,b,g,n=>by
  rw [bI,zQ]
  by_cases c:a < j
  ·have c1:decide ((a:Int) < (j:Int))=true:=decide_eq_true OV
   have d:j - 1 < l.length:=by omega
   have o:j - 1 < (l.set j l[j - 1]).length:=by rw [List.length_set]; omega
   obtain ⟨v,v1,v2⟩:=g.at_ b d
   simp only [c1,if_true,wS1 (x:=j) OV OV,ag b,ag d,OX,v1,v2]
   by_cases k:v < 0
   ·have e:=rS (Pc d) (Pc b)
    rw [List.set_comm _ _ (show j - 1≠j by omega)] at e
    have m:=I1 (N:=N) (a:=a) (i:=i) K f fuel (swp l (j - 1) j) (j - 1) OV OV (by rw [lx]; omega) (g.sub λx q=>vO q) (by rw [lx]; exact n)
    rw [e] at m
    simp only [k,decide_true,if_true,Pd,ag o,OX,c,and_self,e,m]
   ·simp only [k,decide_false,OY,if_false,and_false]
  ·have c1:decide ((a:Int) < (j:Int))=false:=decide_eq_false OV
   simp only [c1,OY,if_false,OX,c,false_and]
theorem IM {N a b:Nat} (e:b < N):∀ (f fuel:Nat) (l:List a7) (i:Nat),b - i < f→b - i < fuel→b≤l.length→tJ p lt l→l.length≤4294967296 →
  bn N (a:Int) (b:Int) p fuel l (i:Int)=some (vg lt f l a i b)
 | 0,_,_,_,h,_,_,_,_=>by omega
 | f+1,0,_,_,_,h,_,_,_=>by omega
 | f+1,fuel+1,l,i,h1,k,m,d,g=>by
  rw [bn,vg]
  by_cases c:i < b
  ·have c1:decide ((i:Int) < (b:Int))=true:=decide_eq_true OV
   obtain ⟨n,j⟩:=wQ (lt:=lt) (i - a+1) l a i
   rw [c1,if_pos rfl,if_pos c,I1 (lt:=lt) _ (i - a+1) N l i OV OV OV d g,wr1 i OV]
   exact IM e f fuel _ (i+1) OV OV OV (d.sub j) OV
  ·have c1:decide ((i:Int) < (b:Int))=false:=decide_eq_false OV
   rw [c1,if_neg OW,if_neg c]
theorem Lj {N a b f:Nat} (l:List a7) (c:b < N) (d:b - (a+1) < f) (e:b≤l.length) (i:a≤b) (g:tJ p lt l) (h:l.length≤4294967296) :
  bW N l (a:Int) (b:Int) p=some (vg lt f l a (a+1) b):=by
 unfold bW
 rw [wr1 a OV]
 exact IM c f N l (a+1) d OV e g h
theorem Ho {N n:Nat} (d:n < N):∀ (f fuel:Nat) (l:List a7) (a:Nat),n - a < f→n - a < fuel→a≤n→n≤l.length→tJ p lt l→l.length≤4294967296 →
  cg N (n:Int) p fuel l (a:Int) ((a+20:Nat):Int)=bp N (n:Int) p N (zb lt 20 f l a n) 20
 | 0,_,_,_,h,_,_,_,_,_=>by omega
 | f+1,0,_,_,_,h,_,_,_,_=>by omega
 | f+1,fuel+1,l,a,h1,m,i,j,b,g=>by
  rw [cg,zb]
  by_cases c:a+20≤n
  ·have c1:decide (((a+20:Nat):Int)≤(n:Int))=true:=decide_eq_true OV
   obtain ⟨o,k⟩:=ug (lt:=lt) (20+1) l a (a+1) (a+20)
   have e:IntKind.i64.wrap (((a+20:Nat):Int)+20)=((a+20+20:Nat):Int):=wA (x:=a+20) (y:=20) OV
   rw [c1,if_pos rfl,if_pos c,Lj (lt:=lt) (f:=20+1) l OV OV OV OV b g,OX,e]
   exact Ho d f fuel _ (a+20) OV OV c OV (b.sub k) OV
  ·have c1:decide (((a+20:Nat):Int)≤(n:Int))=false:=decide_eq_false OV
   rw [c1,if_neg OW,if_neg c,Lj (lt:=lt) (f:=n - a+1) l d OV j i b g,OX]
theorem L9 {N n F s:Nat} (e:n≤4294967296) (g:0 < s) (i:s < n) (j:n≤F) (k:n+F < N) (K:List a7→Int→Option (List a7)):∀ (f fuel:Nat) (l:List a7) (a:Nat),n - a < f→n - a < fuel→a≤n→l.length=n→tJ p lt l →
  cI N (n:Int) p (s:Int) K fuel l (a:Int) ((a+2*s:Nat):Int)=K (pas lt F s f l a n) ((2*s:Nat):Int)
 | 0,_,_,_,h,_,_,_,_=>by omega
 | f+1,0,_,_,_,h,_,_,_=>by omega
 | f+1,fuel+1,l,a,h1,r,t,u,b=>by
  rw [cI,pas]
  have m:IntKind.i64.wrap ((s:Int)*2)=((2*s:Nat):Int):=by rw [wr OV OV]; omega
  have o:IntKind.i64.wrap (2*(s:Int))=((2*s:Nat):Int):=by rw [wr OV OV]; omega
  rw [wA (x:=a) (y:=s) OV,m]
  by_cases c:a+2*s≤n
  ·have c1:decide (((a+2*s:Nat):Int)≤(n:Int))=true:=decide_eq_true OV
   obtain ⟨v,q⟩:=rq (lt:=lt) F l a (a+s) (a+2*s)
   have d:=E2 F N l a (a+s) (a+2*s) b OV OV OV OV OV OV
   rw [c1,if_pos rfl,if_pos c,d,OX,o,wA (x:=a+2*s) (y:=2*s) OV]
   exact L9 e g i j k K f fuel _ (a+2*s) OV OV c OV (b.sub q)
  ·have c1:decide (((a+2*s:Nat):Int)≤(n:Int))=false:=decide_eq_false OV
   rw [c1,if_neg OW,if_neg c]
   by_cases c2:a+s < n
   ·have d1:decide (((a+s:Nat):Int) < (n:Int))=true:=decide_eq_true OV
    have d:=E2 F N l a (a+s) n b OV OV OV OV OV OV
    rw [d1,if_pos rfl,if_pos c2,d,OX]
   ·have d1:decide (((a+s:Nat):Int) < (n:Int))=false:=decide_eq_false OV
    rw [d1,if_neg OW,if_neg c2]
theorem Ln {N n F:Nat} (b:n≤4294967296) (d:n≤F) (e:n+F < N):∀ (f fuel:Nat) (l:List a7) (s:Nat),0 < s→n - s < f→n - s < fuel→l.length=n→tJ p lt l →
  bp N (n:Int) p fuel l (s:Int)=some (stL lt F f l n s)
 | 0,_,_,_,_,h,_,_,_=>by omega
 | f+1,0,_,_,_,_,h,_,_=>by omega
 | f+1,fuel+1,l,s,i,h1,o,j,g=>by
  rw [bp,stL]
  by_cases c:s < n
  ·have c1:decide ((s:Int) < (n:Int))=true:=decide_eq_true OV
   have k:IntKind.i64.wrap (2*(s:Int))=((0+2*s:Nat):Int):=by rw [wr OV OV]; omega
   obtain ⟨q,m⟩:=CR (lt:=lt) F s (n+1) l 0 n
   rw [c1,if_pos rfl,if_pos c,k]
   refine (L9 (lt:=lt) (a:=0) b i c d e _ (n+1) N l OV OV OV j g).trans ?_
   exact Ln b d e f fuel _ (2*s) OV OV OV OV (g.sub m)
  ·have c1:decide ((s:Int) < (n:Int))=false:=decide_eq_false OV
   rw [c1,if_neg OW,if_neg c]
theorem LM {N:Nat} (l:List a7) (a:tJ p lt l) (b:l.length≤4294967296) (c:l.length+l.length < N):cA N l p=some (wE lt l.length l):=by
 unfold cA eZ wE
 obtain ⟨d,e⟩:=AF (lt:=lt) 20 (l.length+1) l 0 l.length
 have h1:=Ho (lt:=lt) (N:=N) (n:=l.length) OV (l.length+1) N l 0 OV OV OV (P9 _) a b
 simp only [Pg,P2] at h1
 have f:cg N (l.length:Int) p N l 0 20=_:=h1
 have g:=Ln (lt:=lt) (N:=N) (n:=l.length) (F:=l.length) b (P9 _) c (l.length+1) N (zb lt 20 (l.length+1) l 0 l.length) 20 OV OV OV d (a.sub e)
 have h:bp N (l.length:Int) p N (zb lt 20 (l.length+1) l 0 l.length) 20=_:=g
 rw [f,h,OX]
theorem GP {N:Nat} (b:1099000000000≤N) (ps:List az) (s:ae) (ids:List Int) (e:dE ps≤1048576) (hp:∀ p∈ps,p.Args.length≤1048576) (f:s.Items.length≤1048576) (g:∀ x∈s.Items,x.F.Fields.length≤1048576) (k:ids.length≤1048576) (he:ids.length=ps.length) :
  iH N ps s ids=some (be s.Items ps ids []):=by
 unfold iH
 have lp:∀ (n i:Nat) (l:List aw),i≤ids.length→ids.length - i < n→l.length+dE (ps.drop i)≤1048576→et N ps s ids n l i=some (be s.Items (ps.drop i) (ids.drop i) l):=by
  intro n
  induction n with
  | zero=>intro i _ _ h; omega
  | succ n j=>
   intro i l h1 m c
   by_cases d:i < ids.length
   ·have c1:decide ((i:Int) < (ids.length:Int))=true:=decide_eq_true OV
    have a:i < ps.length:=by omega
    rw [P3 a] at c
    rw [eX] at c
    have o:=lB ps[i] (aF s.Items ids[i]).1 l
    rw [P3 d,P3 a,be]
    simp only [et,c1,if_true,ag d,ag a,OX,tx b s _ f g,wl b ps[i] _ l (hp _ (P4 a)) (show l.length≤2147483648 by omega),wr1 i OV]
    cases (aF s.Items ids[i]).2 with
    | false=>simp
    | true=>
     cases (bz ps[i] (aF s.Items ids[i]).1 l).2 with
     | false=>simp
     | true=>
      simp only [Pb,OY,if_false,and_self,if_true]
      exact j (i+1) _ OV OV OV
   ·have c1:decide ((i:Int) < (ids.length:Int))=false:=decide_eq_false OV
    simp only [et,c1,OY,if_false]
    rw [Ph OV,Ph OV]; rfl
 have:=lp N 0 [] OV OV (by simpa using e)
 simpa using this
theorem DE {N:Nat} (a:1099000000000≤N) (r:ah) (s:ae) (ids:List Int) (b:r.Pats.length≤1048576) (f:dE r.Pats≤1048576) (hp:∀ p∈r.Pats,p.Args.length≤1048576) (c:s.Items.length≤1048576) (d:∀ x∈s.Items,x.F.Fields.length≤1048576) (e:ids.length≤1048576) :
  nj N r s ids=some (be s.Items (pos r.Pats) ids []):=by
 unfold nj
 rw [qx a r false b,OX,z8]
 by_cases he:ids.length=(pos r.Pats).length
 ·have c1:decide ((ids.length:Int)=((pos r.Pats).length:Int))=true:=decide_eq_true OV
  have h1:=qT r.Pats
  rw [c1]
  simp only [Pb,OY,if_false,GP a (pos r.Pats) s ids OV (λp h=>hp p ((P6.1 h).1)) c d e he,OX]
 ·have c1:decide ((ids.length:Int)=((pos r.Pats).length:Int))=false:=decide_eq_false OV
  rw [c1,xq (λh=>he h.symm)]; rfl
theorem Cq {N:Nat} (c:1099000000000≤N) (a:cO) (l:List aw) (d:l.length≤4294967296):nR N a l=some (oP a l):=by
 unfold nR oP
 rw [IU c l a.S d]
 by_cases b:a.K=2
 ·simp [b]
 ·by_cases h1:a.K=1<;>simp [h1,b,zv]
theorem or3 {N:Nat} (l:1099000000000≤N) (a b c:Int):gR N [a,b,c]=some (if a=0 then (if b=0 then c else b) else a):=by
 obtain ⟨n,rfl⟩:∃ n,N=n+4:=⟨N - 4,OV⟩
 unfold gR
 have f:IntKind.i64.wrap ((0:Int)+1)=1:=by decide
 have g:IntKind.i64.wrap ((1:Int)+1)=2:=by decide
 have h:IntKind.i64.wrap ((2:Int)+1)=3:=by decide
 have i0:idx [a,b,c] 0=some a:=rfl
 have i:idx [a,b,c] 1=some b:=rfl
 have i2:idx [a,b,c] 2=some c:=rfl
 have j:(([a,b,c]:List Int).length:Int)=3:=rfl
 simp only [gF,f,g,h,i0,i,i2,j,OX]
 by_cases d:a=0
 ·by_cases e:b=0
  ·by_cases k:c=0<;>simp [d,e,k]
  ·simp [d,e]
 ·simp [d]
theorem OF (N:Nat) (a b:Qr):gw N a b=some (if slt a b=true then -1 else if (!slt a b && !seq a b)=true then 1 else 0):=by
 unfold gw io
 simp only [l6,Pb,OX,OY,if_false]
 cases slt a b with
 | true=>simp
 | false=>cases seq a b<;>simp
theorem Ju {N:Nat} (d:1099000000000≤N) (x y:bP):oE N x y=some (J4 x y):=by
 unfold oE m5 J4
 simp only [BQ,OF,OX,or3 d,cmp]
 congr 1
 by_cases h1:x.K=y.K
 ·by_cases c:x.N=y.N
  ·simp only [h1,c,Int.lt_irrefl,if_false,if_true]
   cases slt x.S y.S with
   | true=>simp
   | false=>cases seq x.S y.S<;>simp
  ·simp only [h1,c,Int.lt_irrefl,if_false,if_true]
   by_cases a:x.N < y.N
   ·simp [a]
   ·have b:y.N < x.N:=by omega
    simp [a,b]
 ·simp only [h1,if_false]
  by_cases a:x.K < y.K
  ·simp [a]
  ·have b:y.K < x.K:=by omega
   simp [a,b]
theorem Jk {N:Nat} (a:1099000000000≤N) (c:fm) (l:List aw) (b:l.length≤4294967296):rp N c l=some (holds c l):=by
 unfold rp holds
 rw [Cq a c.L l b,Cq a c.R l b]
 simp only [OX,Ju a,iG]
 cases (oP c.L l).2 with
 | false=>simp
 | true=>
  cases (oP c.R l).2 with
  | false=>simp
  | true=>
   by_cases h1:c.Op=1
   ·simp [h1]
   ·by_cases d:c.Op=2
    ·simp [d]
    ·by_cases e:c.Op=3<;>simp [h1,d,e]
theorem AU {N:Nat} (a:1099000000000≤N) (cs:List fm) (l:List aw) (j:cs.length≤4194304) (d:l.length≤4294967296):mI N cs l=some (cs.all λc=>holds c l):=by
 unfold mI
 refine lp0 a cs OV (gp N cs l) (λt=>some (t.all λc=>holds c l)) (λn i x t h1 b k e f g h=>?_) (λn i h1 b=>?_)
 ·simp only [gp,f,if_true,e,OX,Jk a x l d,g,h,Pz]
  cases holds x l<;>simp
 ·simp only [gp,b,OY,if_false]; rfl
theorem LH {N:Nat} (a:1099000000000≤N) (t:an) (h:t.Hits.length≤4294967296):pT N t=some (xJ t):=by
 unfold pT xJ
 refine lp0 a t.Hits h (gW N t) (λl=>some (l.all λn=>decide (n=0))) (λn i x l g1 g2 g3 g4 g5 g6 g7=>?_) (λn i g1 g2=>?_)
 ·simp only [gW,g5,if_true,g4,OX,g6,g7,Pz]
  by_cases c:x=0<;>simp [c]
 ·simp only [gW,g2,OY,if_false]; rfl
structure SzP (r:ah) (xs:List ak):Prop where
 pl:r.Pats.length≤1048576
 sa:dE r.Pats≤1048576
 pa:∀ p∈r.Pats,p.Args.length≤1048576
 cl:r.Conds.length≤1048576
 sl:xs.length≤1048576
 fl:∀ x∈xs,x.F.Fields.length≤1048576
theorem SzP.binds {r:ah} {xs:List ak} (h:SzP r xs) (ids:List Int):(be xs (pos r.Pats) ids []).1.length≤1048576:=by
 have h1:=uQ (xs:=xs) (pos r.Pats) ids []
 have a:=qT r.Pats
 have b:=h.sa
 simp at h1
 omega
theorem Cd {xs:List ak} {i:Int} {r:ah} {t:an} {b:Bool} (h:((be xs (pos r.Pats) t.Ids []).2 && (xJ t && r.Conds.all λc=>holds c (be xs (pos r.Pats) t.Ids []).1))=b):tX xs i r t=if b=true then [⟨i,t.Ids,(be xs (pos r.Pats) t.Ids []).1⟩] else []:=by
 unfold tX; rw [h]
theorem KP {N:Nat} (e:1099000000000≤N) (s:ae) (s1:List a7) (i:Nat) (K:List a7→Int→Option (List a7)) (r:ah) (L:ar) (d:SzP r s.Items) (p:L.Toks.length≤1048576) (q:∀ t∈L.Toks,t.Ids.length≤1048576∧t.Hits.length≤1048576) :
  fL N s s1 (i:Int) K r L N [] 0=(app s1 (vh (pj s.Items (i:Int) r L.Toks))).bind λx=>K x (IntKind.i64.wrap ((i:Int)+1)):=by
 refine (lp' e L.Toks OV (λn (u:List a7) j=>fL N s s1 (i:Int) K r L n u j) (λt u=>(app s1 (vh (u++pj s.Items (i:Int) r t))).bind λx=>K x (IntKind.i64.wrap ((i:Int)+1))) (λu t=>u.length+t.length≤1048576∧∀ x∈u,x.Ids.length≤1048576) [] ⟨by simpa using p,OW⟩ (λn u j t l g1 g2 g3 g4 g5 g6 g o=>?_) (λn u j g1 g2 g=>?_)).trans OW
 ·obtain ⟨k,i2⟩:=g
  simp only [OZ] at k
  obtain ⟨t1,t2⟩:=q t g2
  have w:=d.binds t.Ids
  have z:=d.cl
  have es:pj s.Items (i:Int) r (t :: l)=tX s.Items (i:Int) r t++pj s.Items (i:Int) r l:=rfl
  have skip:((be s.Items (pos r.Pats) t.Ids []).2 && (xJ t && r.Conds.all λc=>holds c (be s.Items (pos r.Pats) t.Ids []).1))=false→fL N s s1 (i:Int) K r L n u ((j+1:Nat):Int)=(app s1 (vh (u++pj s.Items (i:Int) r (t :: l)))).bind λx=>K x (IntKind.i64.wrap ((i:Int)+1)):=λh=>by
   rw [o u ⟨OV,i2⟩,es,Cd h]; simp
  simp only [fL,g5,if_true,g4,OX,DE e r s t.Ids d.pl d.sa d.pa d.sl d.fl t1]
  cases f:(be s.Items (pos r.Pats) t.Ids []).2 with
  | false=>
   simp only [OY,if_false,OX,g6]
   exact skip (by rw [f]; rfl)
  | true=>
   simp only [if_true,LH e t OV,OX]
   cases m:xJ t with
   | false=>
    simp only [OY,if_false,OX,g6]
    exact skip (by rw [f,m]; rfl)
   | true=>
    simp only [if_true,AU e r.Conds _ (show r.Conds.length≤4194304 by omega) (show (be s.Items (pos r.Pats) t.Ids []).1.length≤4294967296 by omega),OX]
    cases hH:(r.Conds.all λc=>holds c (be s.Items (pos r.Pats) t.Ids []).1) with
    | false=>
     simp only [OY,if_false,g6]
     exact skip (by rw [f,m,hH]; rfl)
    | true=>
     simp only [if_true,bm,gD (show t.Ids.length≤4294967296 by omega),OX,bV (show u.length+[(⟨(i:Int),t.Ids,(be s.Items (pos r.Pats) t.Ids []).1⟩:a7)].length≤4294967296 by simp; omega),g6]
     rw [o _ ⟨by simp; omega,λx a=>by
      rcases Po.1 a with a | a
      ·exact i2 x a
      ·simp only [Pp] at a; rw [a]; exact t1⟩,es,Cd (b:=true) (by rw [f,m,hH]; rfl)]
     simp
 ·obtain ⟨k,i2⟩:=g
  simp only [P1,Nat.add_zero] at k
  have v:tJ (eD N) mN u:=λx a y A=>Ja OV x y (i2 x a)
  simp only [fL,g2,OY,if_false,LM (N:=N) u v OV OV,OX]
  simp [pj,vh]
theorem Ij:vh []=[]:=by
 have:=(BT []).2.length_eq
 exact Pq.1 (by simpa using this)
theorem Jb (l:List a7):(vh l).length=l.length:=(BT l).2.length_eq
theorem GS {w:aH} (h:w.Levels.length=0):pt w=[]:=by
 unfold pt
 rw [Pq.1 h]; rfl
def Gb:List aH→Nat
 | []=>0
 | w :: ws=>(pt w).length+Gb ws
def oY (i:Nat) (m:a7):a7:=⟨(i:Int),m.Ids,m.Binds⟩
def dC (xs:List ak):Nat→List ah→List a7
 | _,[]=>[]
 | i,r :: t=>(jw r xs).map (oY i)++dC xs (i+1) t
theorem DP {r:ah} {s:ae} (a:yA r s):(jw r s.Items).length≤1073741824:=by
 have h1:=uj (vC r s.Items) s.Items (r.Pats.take (ao r.Pats)) [] []
 have b:=eh r.Pats
 rw [Pj,Nat.min_eq_left b] at h1
 exact Pe h1 a.nm
theorem xv {xs:List ak} {M:Nat}:∀ (t:List ah) (i:Nat),(∀ r∈t,(jw r xs).length≤M)→(dC xs i t).length≤t.length*M
 | [],i,_=>by simp [dC]
 | r :: t,i,h=>by
  have h1:=xv t (i+1) λy a=>h y (by simp [a])
  have b:=h r OW
  unfold dC
  rw [P7,Pr,OZ,Pk]; omega
theorem Gz (ps:List az) (xs:List ak) (l:List aw):((eT xs (neg ps) l).all λn=>decide (n=0)) = !nf ps xs l:=by
 unfold eT neg nf
 induction ps with
 | nil=>rfl
 | cons p ps a=>
  rw [Ps,List.any_cons]
  cases hp:p.Not with
  | false=>simp only [OY,if_false,Bool.false_and,Bool.false_or]; exact a
  | true=>
   simp only [if_true,P8,Pz,Pt,Bool.not_or,a]
   congr 1
   have h:=C5 p l xs
   rw [← h]
   by_cases c:ta p l xs=0
   ·simp [c]
   ·rw [decide_eq_false OV,decide_eq_true OV]; rfl
theorem xz {xs:List ak} {ps:List az} {r:List Int} (h:r.length=ps.length):okB xs ps r=be xs ps r []:=by
 unfold okB
 rw [List.take_of_length_le OV]
theorem Kg {a b:a7} (h:mN a b=true):a≠b:=λe=>by
 subst e
 have:=xr.irr a
 rw [h] at this
 cases this
theorem IK {xs:List ak} {i:Nat} {r:ah} {w:aH} (hu:pJ xs) (hp:iy r.Pats=true) (K:w.Levels.length=(pos r.Pats).length) (hw:wy xs r w):vh (pj xs (i:Int) r (pt w))=(jw r xs).map (oY i):=by
 have v:pos r.Pats=r.Pats.take (ao r.Pats):=tY hp
 have M:1≤(pos r.Pats).length:=by
  have h1:=hp
  unfold iy at h1
  simp only [P0,decide_eq_true_eq] at h1
  have d:(pos r.Pats).length=ao r.Pats:=qh r.Pats
  omega
 have C:w.Levels.length - 1 < w.Levels.length:=by omega
 obtain ⟨L,y⟩:∃ L,w.Levels[w.Levels.length - 1]?=some L:=⟨_,Pc C⟩
 have D:pt w=L.Toks:=by unfold pt; rw [y]
 obtain ⟨l,E⟩:=hw _ L y
 rw [show w.Levels.length - 1+1=(pos r.Pats).length by omega] at l
 rw [D]
 have F:=Af (r:=r) hu
 have z:((jw r xs).map (oY i)).Pairwise λa b=>mN a b=true:=by
  rw [PA]
  exact F.imp_of_mem fun {a b} g f n=>by
   have h1:=(pI hu g).1
   have d:=(pI hu f).1
   unfold mN oY at *
   rw [if_pos OV] at n
   simpa using n
 have A:∀ t∈L.Toks,t.Ids.length=(pos r.Pats).length∧(be xs (pos r.Pats) t.Ids []).2=true∧xJ t = !nf r.Pats xs (be xs (pos r.Pats) t.Ids []).1:=λt h=>by
  obtain ⟨h1,d⟩:=Has.len l t h
  have e:=xz (xs:=xs) h1
  unfold okR at d
  rw [e] at d
  refine ⟨h1,d,?_⟩
  have k:=E t h
  unfold iX at k
  rw [if_pos OV,e] at k
  unfold xJ
  rw [k]
  exact Gz _ _ _
 symm
 refine Jo ?_ ?_
 ·exact z.imp_of_mem fun {a b} g f n=>by
   exact xr.asymm a b n
 ·refine (List.perm_ext_iff_of_nodup (z.imp λh=>Kg h) ?_).2 λx=>?_
  ·unfold pj Pu
   rw [List.pairwise_flatMap]
   refine ⟨λt _=>?_,?_⟩
   ·unfold tX
    split
    ·exact List.pairwise_singleton _ _
    ·exact List.Pairwise.nil
   ·have q:=l.nd
    unfold fy Pu at q
    rw [PA] at q
    exact q.imp fun {t u} G a g b f e=>G (by
     unfold tX at g f
     split at g
     ·split at f
      ·simp only [Pp] at g f
       rw [g,f] at e
       exact (a7.mk.inj e).2.1
      ·cases f
     ·cases g)
  ·unfold pj
   rw [P5,List.mem_flatMap]
   constructor
   ·rintro ⟨m,hm,rfl⟩
    obtain ⟨h1,d,k⟩:=pI hu hm
    rw [← v] at d
    have hlen:=yq _ _ _ _ d
    have H:okR xs (pos r.Pats) m.Ids=true:=by unfold okR; rw [xz hlen,d]
    obtain ⟨t,o,B⟩:=P5.1 ((l.iff m.Ids).2 ⟨hlen,H⟩)
    refine ⟨t,o,?_⟩
    obtain ⟨I,s,p⟩:=A t o
    rw [B,d] at p
    unfold tX
    rw [B,d,p]
    simp only [Pt]
    rw [if_pos k]
    simp [oY]
   ·rintro ⟨t,o,j⟩
    obtain ⟨I,s,p⟩:=A t o
    unfold tX at j
    rw [s,p,Pt] at j
    split at j
    ·rename_i c
     simp only [Pp] at j
     subst j
     have f:be xs (r.Pats.take (ao r.Pats)) t.Ids []=((be xs (pos r.Pats) t.Ids []).1,true):=by rw [← v,← s]
     exact ⟨_,Gl f c,rfl⟩
    ·cases j
theorem Bz {xs:List ak} (hu:pJ xs):∀ (a:List ah) (ws:List aH) (i:Nat),a.length=ws.length→(∀ r∈a,ja r=true)→(∀ (k:Nat) (r:ah) (w:aH),a[k]?=some r→ws[k]?=some w→w.Levels.length=(pos r.Pats).length∧wy xs r w)→Ev xs i a ws=dC xs i a
 | [],[],i,_,_,_=>rfl
 | [],w :: ws,i,h,_,_=>by simp at h
 | r :: a,[],i,h,_,_=>by simp at h
 | r :: a,w :: ws,i,h,d,hw=>by
  have e:=Bz hu a ws (i+1) (by simpa using h) (λq f=>d q (by simp [f])) λk q v h1 b=>hw (k+1) q v (by simpa using h1) (by simpa using b)
  obtain ⟨h1,b⟩:=hw 0 r w rfl rfl
  have c:=d r OW
  have hp:iy r.Pats=true:=by
   unfold ja at c
   simp only [P0] at c
   exact c.2.2.1
  rw [Ev,dC,e,IK hu hp h1 b]
theorem qK {r:ah} (h:ja r=true):iy r.Pats=true:=by
 unfold ja at h
 simp only [P0] at h
 exact h.2.2.1
theorem E1 {r:ah} (h:ja r=true):pos r.Pats=r.Pats.take (ao r.Pats):=tY (qK h)
theorem yZ {B:Nat}:∀ {l:List az},(∀ p∈l,p.Args.length≤B)→dE l≤l.length*B
 | [],_=>by simp [dE]
 | p :: t,h=>by
  have h1:=yZ (l:=t) λq a=>h q (by simp [a])
  have b:=h p OW
  rw [eX,OZ,Pk]; omega
theorem uN {c:Nat}:∀ (l:List az) (i:Nat),iL c i l=true→∀ p∈l,uK p=true
 | [],_,_,p,hp=>by cases hp
 | x :: t,i,h,p,hp=>by
  unfold iL at h
  simp only [P0] at h
  rcases List.mem_cons.1 hp with rfl | hp
  ·exact h.1
  ·exact uN t _ h.2.2 p hp
theorem Fg {r:ah} {s:ae} (a:ja r=true) (b:fx s=true):yA r s:=by
 have hp:=qK a
 unfold ja at a
 simp only [P0,decide_eq_true_eq] at a
 have d:=a.2.2.2.1.2
 unfold iy at hp
 simp only [P0,decide_eq_true_eq] at hp
 obtain ⟨⟨_,e⟩,⟨_,c⟩,p3⟩:=hp
 have pa:∀ p∈r.Pats,p.Args.length≤5:=λp hp=>by
  have:=uN _ _ p3 p hp
  unfold uK at this
  simp only [P0,decide_eq_true_eq] at this
  omega
 have sa:=yZ pa
 unfold fx at b
 simp only [P0,decide_eq_true_eq] at b
 have xl:=b.2.1
 refine ⟨OV,λp hp=>by have:=pa p hp; omega,OV,OV,OV,?_⟩
 exact Pe (Nat.pow_le_pow_left xl _) (Pe (PB OV c) (by decide))
theorem AO {r:ah} {s:ae} (b:ja r=true) (a:fx s=true):(jw r s.Items).length≤64000:=by
 have hp:=qK b
 unfold iy at hp
 simp only [P0,decide_eq_true_eq] at hp
 obtain ⟨_,⟨_,c⟩,_⟩:=hp
 unfold fx at a
 simp only [P0,decide_eq_true_eq] at a
 have xl:=a.2.1
 have h1:=uj (vC r s.Items) s.Items (r.Pats.take (ao r.Pats)) [] []
 rw [Pj,Nat.min_eq_left (eh r.Pats)] at h1
 exact Pe h1 (Pe (Nat.pow_le_pow_left xl _) (Pe (PB OV c) (by decide)))
def sL (d:bf) (s:ae):List a7:=if (iq d && fx s)=true then dC s.Items 0 d.Rules else []
theorem wK {d:bf} (h:iq d=true):d.Rules.length≤12:=by
 unfold iq at h
 simp only [P0,decide_eq_true_eq] at h
 exact h.2.1.2
theorem Kz {N:Nat} (o:1099000000000≤N) (d:bf) (m:aJ) (s:ae) (p:∀ r∈d.Rules,SzP r s.Items) (C:d.Rules.length≤1048576) (hm:m.Rules.length=d.Rules.length) (hw:∀ w∈m.Rules,w.Levels.length≤1048576∧(pt w).length≤1048576∧∀ t∈pt w,t.Ids.length≤1048576∧t.Hits.length≤1048576) :
  ∀ (n i:Nat) (u:List a7),d.Rules.length - i < n→i≤d.Rules.length→u.length+Gb (m.Rules.drop i)≤4294967296→iF N d m s n u (i:Int)=some (u++Ev s.Items i (d.Rules.drop i) (m.Rules.drop i)):=by
 intro n
 induction n with
 | zero=>intro i u h; omega
 | succ n b=>
  intro i u D E hu
  rw [iF]
  by_cases c:i < d.Rules.length
  ·have c1:decide ((i:Int) < (d.Rules.length:Int))=true:=decide_eq_true OV
   have c2:i < m.Rules.length:=by omega
   have d1:decide ((i:Int) < (m.Rules.length:Int))=true:=decide_eq_true OV
   have d2:decide ((m.Rules.length:Int)≤(i:Int))=false:=decide_eq_false OV
   rw [P3 c,P3 c2,Ev]
   rw [P3 c2,Gb] at hu
   simp only [c1,d1,d2,if_true,OX,ag c,ag c2,OY,if_false]
   obtain ⟨F,f,g⟩:=hw _ (P4 c2)
   have q:=p _ (P4 c)
   by_cases v:m.Rules[i].Levels.length=0
   ·have a:decide ((m.Rules[i].Levels.length:Int)=0)=true:=decide_eq_true OV
    have j:=GS v
    rw [j] at hu
    simp only [a,if_true,wr1 i OV,j]
    have:=b (i+1) u OV OV (by simpa using hu)
    have e:vh (pj s.Items (i:Int) d.Rules[i] [])=[]:=Ij
    rw [e,Pm]
    exact this
   ·have a:decide ((m.Rules[i].Levels.length:Int)=0)=false:=decide_eq_false OV
    have l:m.Rules[i].Levels.length - 1 < m.Rules[i].Levels.length:=by omega
    have y:pt m.Rules[i]=m.Rules[i].Levels[m.Rules[i].Levels.length - 1].Toks:=by unfold pt; rw [Pc l]
    simp only [a,OY,if_false,wS1 (x:=m.Rules[i].Levels.length) OV OV,ag l,OX]
    rw [y] at hu g f ⊢
    have G:=CD (xs:=s.Items) (i:=(i:Int)) (r:=d.Rules[i]) m.Rules[i].Levels[m.Rules[i].Levels.length - 1].Toks
    have H:=Jb (pj s.Items (i:Int) d.Rules[i] m.Rules[i].Levels[m.Rules[i].Levels.length - 1].Toks)
    have z:app u (vh (pj s.Items (i:Int) d.Rules[i] m.Rules[i].Levels[m.Rules[i].Levels.length - 1].Toks))=some (u++vh (pj s.Items (i:Int) d.Rules[i] m.Rules[i].Levels[m.Rules[i].Levels.length - 1].Toks)):=bV OV
    have:=b (i+1) (u++vh (pj s.Items (i:Int) d.Rules[i] m.Rules[i].Levels[m.Rules[i].Levels.length - 1].Toks)) OV OV (by rw [P7]; omega)
    rw [KP o s u i _ d.Rules[i] _ q f g,z,OX,wr1 i OV,← Pv]
    exact this
  ·have c1:decide ((i:Int) < (d.Rules.length:Int))=false:=decide_eq_false OV
   have A:d.Rules.drop i=[]:=Ph OV
   have B:∀ (k:Nat) (ws:List aH),Ev s.Items k [] ws=[]:=λk ws=>by cases ws<;>rfl
   rw [A,B]
   simp only [c1,OY,if_false,OX,Pn]
theorem NH {d:bf} {s:ae} (b:pA d) (a:lE s):∀ r∈d.Rules,SzP r s.Items:=λr c=>by
 obtain ⟨_,⟨g0,g1⟩,⟨g3,_⟩,_,g2,_⟩:=b.2.2 r c
 exact ⟨g0,g2,λp hp=>(g1 p hp).2.1,g3,a.1,λx e=>(a.2 x e).2.1⟩
theorem Fh {N:Nat} (f:1099000000000≤N) {d:bf} {m:aJ} {s:ae} (e:iq d=true) (g:pA d) (i:lE s) {j:Nat} (k:j≤40) (c:m3 d (bB d) j m):ki N d m s=some (Ev s.Items 0 d.Rules m.Rules):=by
 have h1:m3 d ⟨[],[]⟩ j ⟨[],m.Rules⟩:=⟨rfl,c.lr,OW,c.rows⟩
 have l:=(Fo e OW h1).rows
 have u:=wK e
 have hw:∀ w∈m.Rules,w.Levels.length≤1048576∧(pt w).length≤400000∧∀ t∈pt w,t.Ids.length≤1048576∧t.Hits.length≤1048576:=λw hw=>by
  obtain ⟨a,b⟩:=l w hw
  refine ⟨OV,?_⟩
  unfold pt
  split
  ·rename_i L n
   obtain ⟨c1,c2⟩:=b _ L n
   have hp:100 ^ (w.Levels.length - 1)≤100 ^ 2:=PB OV OV
   have:j*100 ^ (w.Levels.length - 1)≤40*100 ^ 2:=Nat.mul_le_mul k hp
   refine ⟨OV,λt o=>?_⟩
   have:=c2 t o
   exact ⟨OV,OV⟩
  ·simp
 have p:∀ (ws:List aH),(∀ w∈ws,(pt w).length≤400000)→Gb ws≤ws.length*400000:=by
  intro ws
  induction ws with
  | nil=>intro _; simp [Gb]
  | cons w ws q=>
   intro h
   have a:=h w OW
   have b:=q λv r=>h v (by simp [r])
   rw [Gb,OZ,Pk]; omega
 have x:=p m.Rules λw h=>(hw w h).2.1
 have y:=c.lr
 have:=Kz f d m s (NH g i) OV c.lr (λw h=>⟨(hw w h).1,by have:=(hw w h).2.1; omega,(hw w h).2.2⟩) N 0 [] OV OV (by simp; omega)
 unfold ki
 simpa using this
theorem Is {N:Nat} (f:1099000000000≤N) {d:bf} {m:aJ} {s:ae} (b:iq d=true) (g:pA d) (h:lE s) (hu:pJ s.Items) {j:Nat} (i:j≤40) (a:m3 d (bB d) j m) (l:rF d (bB d) s.Items m):ki N d m s=some (dC s.Items 0 d.Rules):=by
 rw [Fh f b g h i a,Bz hu d.Rules m.Rules 0 a.lr.symm (kX b) λk r w c e=>⟨(a.rows k r w c e).1,l.rows k r w c e⟩]
theorem rT {x:ak}:∀ (l:List ak),(l.map (·.Id)).Nodup→x∈l→aF l x.Id=(x.F,true)
 | [],_,h=>by cases h
 | y :: t,a,h=>by
  rw [P8,List.nodup_cons] at a
  rw [jG]
  rcases List.mem_cons.1 h with rfl | h
  ·rw [if_pos rfl]
  ·rw [if_neg λe=>a.1 (P5.2 ⟨x,h,e.symm⟩)]
   exact rT t a.2 h
theorem GO {xs:List ak} {ps:List az} {x:ak} {A:Nat→List Int} (b:∀ k p,ps[k]?=some p→∀ y∈xs,dK (aX p) y.F=true→y.Id∈A k) (c:∀ k,k < ps.length→(A k).Nodup):AW (okR (gB x.Id xs) ps) (okR xs ps) x.Id A ps.length:=by
 refine ⟨λr h=>?_,λr h hm=>(yg r).2 ⟨h,hm⟩,λr y h=>?_,λr y g h=>?_,c⟩
 ·have:=(yg r).1 h
  exact ⟨this.2,this.1⟩
 ·unfold okR okB at h ⊢
  rw [P7,OZ,P1,P2] at h
  exact vl ps r [] h
 ·have d:=iE _ _ _ h y OW
  unfold okR okB at h
  rw [P7,OZ,P1,P2] at h
  obtain ⟨p,hp,a⟩:=qL ps r [] h
  obtain ⟨z,f,rfl,e⟩:=qU d
  rw [e] at a
  exact b _ p hp z f a
theorem yV {xs:List ak} {x:ak} {l:List aw} (e:xs.length≤1048576) (a:(xs.map (·.Id)).Nodup) (hm:x∈xs):∀ (ns:List az),kC x.F l 1 ns (eT (gB x.Id xs) ns l)=eT xs ns l
 | []=>rfl
 | p :: ns=>by
  have b:=yV (l:=l) e a hm ns
  have h1:=vR p l xs
  unfold eT at b ⊢
  rw [P8,P8,kC,b]
  congr 1
  have d:=BH (λy=>(bz p y.F l).2) xs a hm
  unfold ta at h1 ⊢
  split
  ·rename_i c
   simp only [c,if_true] at d
   rw [wr OV OV]; omega
  ·rename_i c
   simp only [c,OY,if_false] at d
   omega
theorem zN {xs:List ak} {x:ak} {r:ah} {w:aH} (g:xs.length≤1048576) (i:(xs.map (·.Id)).Nodup) (hm:x∈xs) (s:w.Levels.length=(pos r.Pats).length) (h:wy (gB x.Id xs) r w) :
  ∀ k L,(cZ xs (pos r.Pats) (neg r.Pats) x.F 1 w).Levels[k]?=some L→Has (okR (gB x.Id xs) (pos r.Pats)) (k+1) (fy L.Toks)∧∀ t∈L.Toks,t.Hits=iX xs (pos r.Pats) (neg r.Pats) k t.Ids:=by
 have key:∀ q,okR (gB x.Id xs) (pos r.Pats) q=true→okB xs (pos r.Pats) q=okB (gB x.Id xs) (pos r.Pats) q:=λq j=>(xZ ((yg q).1 j).2).symm
 have l:∀ k L,w.Levels[k]?=some L→k≠w.Levels.length - 1→Has (okR (gB x.Id xs) (pos r.Pats)) (k+1) (fy L.Toks)∧∀ t∈L.Toks,t.Hits=iX xs (pos r.Pats) (neg r.Pats) k t.Ids:=λk L a hk=>by
  obtain ⟨h1,c⟩:=h k L a
  refine ⟨h1,λt b=>?_⟩
  have:=(Pf.1 a).1
  rw [c t b]
  unfold iX
  rw [if_neg OV,if_neg OV]
 intro k L a
 unfold cZ at a
 split at a
 ·rename_i M d
  simp only at a
  rw [List.getElem?_set] at a
  split at a
  ·rename_i e
   split at a
   ·simp only [Option.some.injEq] at a
    subst a
    subst e
    obtain ⟨h1,c⟩:=h _ M d
    have v:=(Pf.1 d).1
    refine ⟨?_,λt b=>?_⟩
    ·unfold fy at h1 ⊢
     rw [rC]; exact h1
    ·simp only at b
     unfold jS at b
     obtain ⟨u,hu,rfl⟩:=P5.1 b
     have m:=c u hu
     have f:=(Has.len h1 u hu).2
     have hk:=key _ f
     have n:(okB xs (pos r.Pats) u.Ids).2=true:=by rw [hk]; exact f
     rw [if_pos n]
     simp only
     rw [m,hk]
     unfold iX
     rw [if_pos OV,if_pos OV,yV g i hm,hk]
   ·cases a
  ·rename_i e
   exact l k L a λo=>e o.symm
 ·rename_i p
  have:=List.getElem?_eq_none_iff.1 p
  have:=(Pf.1 a).1
  omega
theorem E6 {xs:List ak} {x:ak} {as:List bk} {r:ah} {c:aG} {w:aH} (d:xs.length≤1048576) (j:(xs.map (·.Id)).Nodup) (hm:x∈xs) (f:w.Levels.length=(pos r.Pats).length)
  (l:∀ k p,(pos r.Pats)[k]?=some p→∀ y∈xs,dK (aX p) y.F=true→y.Id∈qG as c k) (m:∀ k,k < (pos r.Pats).length→(qG as c k).Nodup) (h:wy (gB x.Id xs) r w):wy xs r (nw xs as x.F x.Id r c w):=by
 have g:=zN d j hm f h
 have hlen:(cZ xs (pos r.Pats) (neg r.Pats) x.F 1 w).Levels.length=w.Levels.length:=by unfold cZ; split<;>simp
 have G:=GO (xs:=xs) (ps:=pos r.Pats) (x:=x) (A:=qG as c) l m
 have n:okR (gB x.Id xs) (pos r.Pats) []=true:=by unfold okR okB; simp [be]
 have e:=uZ (xs:=xs) (ps:=pos r.Pats) (ns:=neg r.Pats) (id:=x.Id) (A:=qG as c) (cZ xs (pos r.Pats) (neg r.Pats) x.F 1 w).Levels 0 [] [] [[]] [] (λ_=>⟨rfl,rfl⟩) (λe=>absurd rfl e)
 have o:=AT G n (Ls:=(cZ xs (pos r.Pats) (neg r.Pats) x.F 1 w).Levels.map λL=>fy L.Toks) (by rw [Pr,hlen,f]; exact P9 _) (λi L a=>by
  rw [Pw,Option.map_eq_some_iff] at a
  obtain ⟨M,b,rfl⟩:=a
  exact (g i M b).1)
 intro k L a
 refine ⟨o k _ ?_,?_⟩
 ·rw [← e,Pw]
  unfold nw at a
  rw [show (lS xs (pos r.Pats) (neg r.Pats) x.Id (qG as c) 0 (cZ xs (pos r.Pats) (neg r.Pats) x.F 1 w).Levels [] [])[k]?=some L from a]
  rfl
 ·have:=uT (xs:=xs) (ps:=pos r.Pats) (ns:=neg r.Pats) (id:=x.Id) (A:=qG as c) d (cZ xs (pos r.Pats) (neg r.Pats) x.F 1 w).Levels 0 [] [] OW OW (λi M b t hm=>by
   obtain ⟨h1,q⟩:=g i M b
   rw [P2]
   exact ⟨(Has.len h1 t hm).1,q t hm⟩) k L a
  rwa [P2] at this
theorem wC {x:ak} {xs:List ak}:∀ (as:List ax),cS x.F x.Id as (as.map λa=>⟨(xs.filter λx=>dK a x.F).map (·.Id)⟩)=as.map λa=>⟨(xs.filter λx=>dK a x.F).map (·.Id)++if dK a x.F=true then [x.Id] else []⟩
 | []=>rfl
 | a :: as=>by
  rw [P8,P8,cS,wC as]
  congr 1
  cases dK a x.F<;>simp
theorem GX {d:bf} {n:bH} {m:aJ} {xs:List ak} {x:ak} {nx:Int} {j:Nat} (F:xs.length≤1048576) (f:(xs.map (·.Id)).Nodup) (hm:x∈xs) (z:Ats n.Alphas n.Chains d.Rules) (t:m3 d n j m) (h:rF d n (gB x.Id xs) m) :
  ∀ (i:Nat) (r:ah) (w:aH),d.Rules[i]?=some r→(xf d n m ⟨xs,nx⟩ x.Id).Rules[i]?=some w→wy xs r w:=by
 have G:=rT xs f hm
 have H:=sv (g:=nw xs (cS x.F x.Id n.Alphas m.Alphas) x.F x.Id) d.Rules n.Chains m.Rules t.lr.symm (by rw [z.len,t.lr])
 intro i r v o l
 unfold xf at l
 simp only [G] at l
 obtain ⟨T,c,w,A,a2,a3,rfl⟩:=H.2 i v l
 rw [o] at A
 cases A
 have B:∀ k p,(pos r.Pats)[k]?=some p→qG (cS x.F x.Id n.Alphas m.Alphas) c k=((gB x.Id xs).filter λy=>dK (aX p) y.F).map (·.Id)++if dK (aX p) x.F=true then [x.Id] else []:=λk p hp=>by
  obtain ⟨I,K⟩:=Pf.1 o
  obtain ⟨L,M⟩:=Pf.1 a2
  have u:=(z.get i L I).1
  rw [M,K] at u
  obtain ⟨C,N⟩:=Pf.1 hp
  have D:k < c.Pos.length:=by rw [u.len]; exact C
  have O:=u.get k D C
  obtain ⟨a0,_,P⟩:=a8 O
  have Q:idx (cS x.F x.Id n.Alphas m.Alphas) c.Pos[k]=some ⟨((gB x.Id xs).filter λy=>dK (aX p) y.F).map (·.Id)++if dK (aX p) x.F=true then [x.Id] else []⟩:=by
   rw [h.al]
   unfold oI
   rw [wC n.Alphas]
   unfold idx
   rw [if_pos a0,Pw,P,← N]
   rfl
  exact (ub (ag D) Q).symm
 refine E6 F f hm (t.rows i r w o a3).1 (λk p hp y q E=>?_) (λk hk=>?_) (h.rows i r w o a3)
 ·rw [B k p hp,Po]
  by_cases c:y.Id=x.Id
  ·have e:=rT xs f q
   have R:y.F=x.F:=by
    have l:=rT xs f hm
    rw [c,l] at e
    exact (congrArg Prod.fst e).symm
   rw [← R,if_pos E]
   exact .inr (by simp [c])
  ·exact .inl (P5.2 ⟨y,P6.2 ⟨P6.2 ⟨q,by simp [c]⟩,E⟩,rfl⟩)
 ·rw [B k _ (Pc hk),List.nodup_append]
  refine ⟨Pu.sublist (List.Sublist.map _ ((List.filter_sublist).trans (List.filter_sublist))) f,by split<;>simp,λa S b s e=>?_⟩
  subst e
  split at s
  ·simp only [Pp] at s
   subst s
   obtain ⟨y,q,e⟩:=P5.1 S
   have:=(P6.1 (P6.1 q).1).2
   simp [e] at this
  ·cases s
theorem HE {N:Nat} (f:1099000000000≤N) {d:bf} {m:aJ} {s:ae} (b:iq d=true) (g:pA d) (h:lE s) (hu:pJ s.Items) {j:Nat} (l:j≤40) (a:m3 d (bB d) j m) (n:∀ (i:Nat) (r:ah) (w:aH),d.Rules[i]?=some r→m.Rules[i]?=some w→wy s.Items r w):ki N d m s=some (dC s.Items 0 d.Rules):=by
 rw [Fh f b g h l a,Bz hu d.Rules m.Rules 0 a.lr.symm (kX b) λk r w c e=>⟨(a.rows k r w c e).1,n k r w c e⟩]
theorem Cw {N:Nat} (e:1099000000000≤N) (d:bf) (s:ae) (c:iq d=true) (f:pA d) (l:s.Items.length≤40) (g:∀ x∈s.Items,x.F.Fields.length≤1048576):∀ (rest done:List ak) (k:Nat) (m:aJ),rest.length < k→s.Items=done++rest→m3 d (bB d) done.length m →
  iN N d s (bB d) k m.Alphas m.Rules (done.length:Int)=some (vw d (bB d) s.Next done rest m)
 | [],done,k,m,hk,a,h=>by
  obtain ⟨k,rfl⟩:∃ j,k=j+1:=⟨k - 1,by simp at hk; omega⟩
  have c1:decide ((done.length:Int) < (s.Items.length:Int))=false:=decide_eq_false (by rw [a]; simp)
  simp only [iN,c1,OY,if_false,vw]
 | x :: t,done,k,m,hk,a,h=>by
  obtain ⟨k,rfl⟩:∃ j,k=j+1:=⟨k - 1,OV⟩
  simp only [OZ] at hk
  have q:s.Items.length=done.length+(t.length+1):=by rw [a]; simp
  have c1:decide ((done.length:Int) < (s.Items.length:Int))=true:=decide_eq_true OV
  have n:idx s.Items (done.length:Int)=some x:=by rw [a]; exact du _ _ _
  have o:ssl s.Items 0 ((done.length+1:Nat):Int)=some (done++[x]):=by
   rw [Ck OV,a]
   congr 1
   rw [show done++x :: t=(done++[x])++t by simp,List.take_left' OW]
  have ok:=vX (s:=⟨done++[x],s.Next⟩) (id:=x.Id) c f (by simp; omega) (λy b=>g y (by rw [a]; simp at b ⊢; rcases b with b | b<;>simp [b])) OV h
  have p:(bB d).Chains.length=d.Rules.length:=(oH (jh c)).2.1.len
  have h1:=tD (s:=⟨done++[x],s.Next⟩) (id:=x.Id) OV (by simp; omega) p h
  have i:=Cw e d s c f l g t (done++[x]) k (xf d (bB d) m ⟨done++[x],s.Next⟩ x.Id) OV (by rw [a]; simp) (by simpa using h1)
  simp only [P7,OZ,P1,P2] at i
  simp only [iN,c1,if_true,n,o,OX,wr1 done.length OV,Lb e d (bB d) _ _ x.Id ok.ok]
  exact i
theorem yb {d:bf} {m:aJ} {j:Nat} (b:iq d=true) (e:j≤40) (a:m3 d (bB d) j m):DL m:=by
 obtain ⟨⟨f,z2⟩,z3,z4⟩:=rA (jh b)
 have h1:m3 d ⟨[],[]⟩ j ⟨[],m.Rules⟩:=⟨rfl,a.lr,OW,a.rows⟩
 have c:=(Fo b OW h1).sz e
 exact ⟨⟨by have:=a.la; omega,λi hm=>by have:=a.al i hm; omega⟩,c.2.1,c.2.2⟩
theorem EP {N:Nat} (a:1099000000000≤N) {d:bf} {m:aJ} {s:ae} (l:pA d) (n:lE s) (b:iq d=true) (e:fx s=true) {j:Nat} (q:j≤40) (o:m3 d (bB d) j m) (r:rF d (bB d) s.Items m):lA N d m s=some true:=by
 have f:s.Items.length≤40:=by
  unfold fx at e
  simp only [P0,decide_eq_true_eq] at e
  exact e.2.1
 have g:=jh b
 have h:=(oH g).2.1
 obtain ⟨⟨t,z2⟩,z3,z4⟩:=rA g
 have i:=ym h
 have k:=Cw a d s b l f (λx p=>(n.2 x p).2.1) s.Items [] N (lM (bB d)) OV rfl i
 simp only [P1,Pg] at k
 have hinv:=J5 (nx:=s.Next) h.len s.Items [] (lM (bB d)) (by simpa using f) i
 have hH:=NO (nx:=s.Next) h s.Items [] (lM (bB d)) (by simpa using f) (by simpa using lN e) i Lm
 simp only [Pm,P1,P2] at hinv hH
 have u:=Hm a (bB d) t z3 (λc v=>(z4 c v).1)
 generalize p:vw d (bB d) s.Next [] s.Items (lM (bB d))=x at k hinv hH
 have w:iN N d s (bB d) N (lM (bB d)).Alphas (lM (bB d)).Rules 0=some x:=k
 unfold lA
 simp only [IJ a d l,b,OX,if_true,y0 a s n,e]
 unfold uc
 simp only [FX a d g,OX,u,w,H8 a m x (yb b q o) (yb b f hinv),K0 o hinv r hH]
theorem JM {N:Nat} (d:1099000000000≤N) (x y:List aw) (f:x.length≤4294967296):dX N x y=some (decide (x=y)):=by
 unfold dX
 by_cases c:x.length=y.length
 ·rw [if_neg (by simp; omega)]
  refine (rj (ct N x y) x y c OV (λa b=>some (decide (a=b))) (λa _ b _=>rfl) (λk i=>by simp only [ct,Bq,OX]) N 0 OV OV).trans ?_
  simp
 ·rw [if_pos (by simp; omega)]
  have : ¬ x=y:=λe=>c (by rw [e])
  simp [this]
theorem GI (x y:a7):decide (x=y)=(un x y && decide (x.Binds=y.Binds)):=by
 obtain ⟨a,b,c⟩:=x
 obtain ⟨d,e,f⟩:=y
 simp only [un,a7.mk.injEq,← Bool.decide_and,and_assoc]
def Lp (l:List a7):Prop:=l.length≤1048576∧∀ m∈l,m.Ids.length≤1048576∧m.Binds.length≤1048576
theorem AA {N:Nat} (f:1099000000000≤N) (x y:List a7) (d:Lp x):mA N x y=some (decide (x=y)):=by
 have h:=d.1
 have key:bg N x y (fW N)=some (decide (x=y)):=by
  unfold bg
  by_cases c:x.length=y.length
  ·rw [if_neg (by simp; omega)]
   refine (rj (aT N x y (fW N)) x y c OV (fW N) (λa g b _=>?_) (λk i=>rfl) N 0 OV OV).trans ?_
   ·obtain ⟨h1,j⟩:=d.2 a g
    unfold fW
    rw [LW OV a b h1,OX,GI]
    cases un a b with
    | false=>rfl
    | true=>simp only [if_true,JM f a.Binds b.Binds OV,OX,Pt]
   ·simp
  ·rw [if_pos (by simp; omega)]
   have : ¬ x=y:=λe=>c (by rw [e])
   simp [this]
 unfold mA
 rw [key,OX]
theorem Nm {P:a7→Prop} {xs:List ak}:∀ (t:List ah) (i:Nat),(∀ r∈t,∀ m∈jw r xs,∀ j:Nat,P (oY j m))→∀ m∈dC xs i t,P m
 | [],i,_,m,hm=>by simp [dC] at hm
 | r :: t,i,h,m,hm=>by
  unfold dC at hm
  rcases Po.1 hm with hm | hm
  ·obtain ⟨x,a,rfl⟩:=P5.1 hm
   exact h r OW x a i
  ·exact Nm t (i+1) (λy b=>h y (by simp [b])) m hm
theorem Hg {d:bf} {s:ae} (a:iq d=true) (b:fx s=true):Lp (dC s.Items 0 d.Rules):=by
 have g:=wK a
 have c:=kX a
 have i:=xv (xs:=s.Items) (M:=64000) d.Rules 0 λr h=>AO (c r h) b
 have hm:=Nm (xs:=s.Items) (P:=λm=>m.Ids.length≤1048576∧m.Binds.length≤1048576) d.Rules 0 λr h m hm j=>by
  have e:=Fg (c r h) b
  have f:=C7 (JY r s.Items) s.Items (r.Pats.take (ao r.Pats)) [] [] m hm
  have k:=rX (ao r.Pats) r.Pats
  have l:=e.sa
  have n:=e.pl
  rw [Pj] at f
  simp only [P1] at f
  show m.Ids.length≤1048576∧m.Binds.length≤1048576
  omega
 exact ⟨OV,hm⟩
theorem Hc {N:Nat} (a:1099000000000≤N) (r:ah) (s:ae) (l:List aw) (d:r.Pats.length≤1048576) (hp:∀ p∈r.Pats,p.Args.length≤1048576) (b:s.Items.length≤1048576) (c:l.length≤2147483648):oa N r s l=some (nf r.Pats s.Items l):=by
 unfold oa
 refine lp0 a r.Pats OV (gz N r s l) (λt=>some (nf t s.Items l)) (λn i x t g1 g2 g3 g4 g5 g6 g7=>?_) (λn i g1 g2=>?_)
 ·simp only [gz,g5,if_true,g4,OX,IB a x s l (hp x g2) b c,C5,g6,g7,t8]
  unfold nf
  rw [List.any_cons]
  cases (x.Not && s.Items.any λy=>(bz x y.F l).2)<;>simp
 ·simp only [gz,g2,OY,if_false]; rfl
theorem M2 (r:ah) (s:ae) (a:yA r s) (z:s.Items.length ^ (pos r.Pats).length≤1073741824):∀ (k N:Nat) (out:List a7) (ids:List Int) (l:List aw),1099000000001+k≤N→ids.length+k=(pos r.Pats).length→out.length+s.Items.length ^ k≤4294967296 →
  l.length+dE ((pos r.Pats).drop ids.length)≤1048576→fX N out r s ids l=some (out++lJ (yk r s.Items) s.Items ((pos r.Pats).drop ids.length) ids l):=by
 have A:=a.pl
 have B:(pos r.Pats).length≤r.Pats.length:=PC _ _
 intro k
 induction k with
 | zero=>
  intro N out ids l j hk b d
  obtain ⟨N,rfl⟩:∃ M,N=M+1:=⟨N - 1,OV⟩
  have c1:decide ((ids.length:Int)=((pos r.Pats).length:Int))=true:=decide_eq_true OV
  have m:(pos r.Pats).drop ids.length=[]:=Ph OV
  rw [m]
  simp only [fX,qx (show 1099000000000≤N by omega) r false a.pl,z8,OX,c1,if_true,Hc (show 1099000000000≤N by omega) r s l a.pl a.pa a.xl OV,AU (show 1099000000000≤N by omega) r.Conds l (by have:=a.cl; omega) OV,t8,lJ,yk,bm,bw]
  cases (!nf r.Pats s.Items l && r.Conds.all λc=>holds c l) with
  | true=>
   simp only [if_true,gD (show ids.length≤4294967296 by omega),gD (show l.length≤4294967296 by omega),OX,bV (show out.length+[(⟨0,ids,l⟩:a7)].length≤4294967296 by simp at b ⊢; omega)]
  | false=>simp
 | succ k o=>
  intro N out ids l j hk b d
  obtain ⟨N,rfl⟩:∃ M,N=M+1:=⟨N - 1,OV⟩
  have c1:decide ((ids.length:Int)=((pos r.Pats).length:Int))=false:=decide_eq_false OV
  have e:ids.length < (pos r.Pats).length:=by omega
  have p:=P3 e
  rw [p] at d ⊢
  rw [eX] at d
  have q:=a.pa _ (P6.1 (P4 e)).1
  simp only [fX,qx (show 1099000000000≤N by omega) r false a.pl,z8,OX,c1,OY,if_false,lJ]
  have v:s.Items.length ^ (k+1)=s.Items.length*s.Items.length ^ k:=by rw [Nat.pow_succ,Nat.mul_comm]
  rw [v] at b
  have C:=a.xl
  refine lp' (show 1099000000000≤N by omega) s.Items OV (λn (u:List a7) i=>f9 N r s ids l (fX N) (pos r.Pats) n u i) (λt u=>some (u++t.flatMap λx=>if (bz (pos r.Pats)[ids.length] x.F l).2=true then lJ (yk r s.Items) s.Items ((pos r.Pats).drop (ids.length+1)) (ids++[x.Id]) (bz (pos r.Pats)[ids.length] x.F l).1 else []))
   (λu t=>u.length+t.length*s.Items.length ^ k≤4294967296) out b (λn u i x t g1 g2 g3 g4 g5 g6 f g=>?_) (λn u i g1 g2 f=>?_)
  ·rw [OZ,Pk] at f
   have D:=lB (pos r.Pats)[ids.length] x.F l
   simp only [f9,g5,if_true,ag e,g4,OX,wl (show 1099000000000≤N by omega) _ x.F l q OV,List.flatMap_cons,g6]
   cases hm:(bz (pos r.Pats)[ids.length] x.F l).2 with
   | true=>
    have w:=uj (vC r s.Items) s.Items ((pos r.Pats).drop (ids.length+1)) (ids++[x.Id]) (bz (pos r.Pats)[ids.length] x.F l).1
    have y:((pos r.Pats).drop (ids.length+1)).length=k:=by rw [List.length_drop]; omega
    rw [y] at w
    have h:(ids++[x.Id]).length=ids.length+1:=by simp
    have:=o N u (ids++[x.Id]) (bz (pos r.Pats)[ids.length] x.F l).1 OV OV OV (by rw [h]; omega)
    rw [h] at this
    simp only [if_true,bm,gD (show ids.length≤4294967296 by omega),bV (show ids.length+[x.Id].length≤4294967296 by simp; omega),OX,this,nr,g6]
    rw [g _ (by rw [P7]; omega),Pv]
   | false=>
    simp only [OY,if_false,Pm]
    exact g u OV
  ·simp only [f9,g2,OY,if_false]; simp
theorem OG {N:Nat} (d:1099400000000≤N) (r:ah) (s:ae) (a:yA r s) (hp:pos r.Pats=r.Pats.take (ao r.Pats)):lV N r s=some (jw r s.Items):=by
 unfold lV jw
 have e:=eh r.Pats
 have h1:=rX (ao r.Pats) r.Pats
 have f:=a.pl
 have g:=a.sa
 have c:=a.nm
 have b:(pos r.Pats).length=ao r.Pats:=by rw [hp,Pj]; omega
 have:=M2 r s a (by rw [b]; exact c) (ao r.Pats) N [] [] [] OV (by simp [b]) (by simp; omega) (by rw [hp]; simp; omega)
 rw [this,hp]; simp
theorem Nn {N:Nat} (e:1099400000000≤N) (d:bf) (s:ae) (v:d.Rules.length≤1048576) (f:∀ r∈d.Rules,yA r s∧pos r.Pats=r.Pats.take (ao r.Pats)) (M:Nat) (g:∀ r∈d.Rules,(jw r s.Items).length≤M) (j:d.Rules.length*M≤4294967296):rk N d s=some (dC s.Items 0 d.Rules):=by
 unfold rk
 have lp:∀ (n i:Nat) (out:List a7),i≤d.Rules.length→d.Rules.length - i < n→out.length+(d.Rules.length - i)*M≤4294967296→gO N d s n out i=some (out++dC s.Items i (d.Rules.drop i)):=by
  intro n
  induction n with
  | zero=>intro i _ _ h; omega
  | succ n l=>
   intro i out w y o
   by_cases a:i < d.Rules.length
   ·have c1:decide ((i:Int) < (d.Rules.length:Int))=true:=decide_eq_true OV
    obtain ⟨c,hp⟩:=f _ (P4 a)
    have hm:=g _ (P4 a)
    have z:=DP c
    rw [P3 a,dC]
    simp only [gO,c1,if_true,ag a,OX,OG e _ s c hp]
    have p:(d.Rules.length - i)*M=M+(d.Rules.length - (i+1))*M:=by
     rw [show d.Rules.length - i=(d.Rules.length - (i+1))+1 by omega,Pk]; omega
    rw [p] at o
    refine (lp' (show 1099000000000≤N by omega) (jw d.Rules[i] s.Items) OV (λm (u:List a7) k=>jN N (i:Int) (gO N d s n) (jw d.Rules[i] s.Items) m u k) (λt u=>some (u++t.map (oY i)++dC s.Items (i+1) (d.Rules.drop (i+1)))) (λu t=>u.length+t.length+(d.Rules.length - (i+1))*M≤4294967296) out OV (λm u k x t g1 g2 g3 g4 g5 g6 b q=>?_) (λm u k g1 g2 b=>?_)).trans OW
    ·simp only [OZ] at b
     simp only [jN,g5,if_true,g4,OX]
     rw [show (⟨(i:Int),x.Ids,x.Binds⟩:a7)=oY i x from rfl,bV (show u.length+[oY i x].length≤4294967296 by simp; omega),OX,g6]
     rw [q _ (by simp; omega)]; simp
    ·simp only [jN,g2,OY,if_false,wr1 i OV]
     rw [l (i+1) u OV OV (by simp at b; omega)]; simp
   ·have c1:decide ((i:Int) < (d.Rules.length:Int))=false:=decide_eq_false OV
    rw [Ph OV]
    simp only [gO,c1,OY,if_false,dC,Pn]
 have:=lp N 0 [] OV OV (by simpa using j)
 simpa using this
theorem LQ {N:Nat} (c:1099400000000≤N) (d:bf) (s:ae) (e:pA d) (f:lE s):kV N d s=some (sL d s):=by
 unfold kV sL
 rw [IJ OV d e,OX,y0 OV s f]
 cases h1:iq d with
 | false=>simp
 | true=>
  cases b:fx s with
  | false=>simp
  | true=>
   have g:=wK h1
   have a:=kX h1
   have:=Nn c d s OV (λr h=>⟨Fg (a r h) b,E1 (a r h)⟩) 64000 (λr h=>AO (a r h) b) OV
   simp [this]
theorem BO {α:Type} {p:α→Option Bool} {q:α→Bool}:∀ (l:List α),(∀ x∈l,p x=some (q x))→zH p l=some (l.filter λx=>!q x)
 | [],_=>rfl
 | x :: l,h=>by
  have a:=BO l λy b=>h y (by simp [b])
  simp only [zH,h x OW,a,OX,Ps]
  cases q x<;>simp
theorem Av {α:Type} {q:α→Bool} {l:List α} {j:Nat} (h:l.findIdx? q=some j):l.filter (λx=>!q x)=l.take j++(l.drop (j+1)).filter λx=>!q x:=by
 obtain ⟨a,h1,b⟩:=Px.1 h
 have e:l=l.take j++l[j] :: l.drop (j+1):=by rw [← P3 a,PE]
 conv=>lhs; rw [e]
 rw [List.filter_append,Ps,h1]
 simp only [Pb,OY,if_false]
 congr 1
 refine Py.2 λx c=>?_
 obtain ⟨i,d,rfl⟩:=List.getElem_of_mem c
 rw [List.getElem_take]
 have:=b i (by simp at d; omega)
 simpa using this
theorem xK {α:Type} {q:α→Bool} {l:List α} (h:l.findIdx? q=none):l.filter (λx=>!q x)=l:=by
 refine Py.2 λx a=>?_
 rw [PF] at h
 simp [h x a]
theorem Ko {N:Nat} (m:1099000000000≤N) (l:List Int) (p:Int→Option Bool) (q:Int→Bool) (hp:∀ x∈l,p x=some (q x)) (f:l.length≤4294967296):eu N l p=some (l.filter λx=>!q x):=by
 unfold eu gC
 have g:td l=some ():=by unfold td; rw [if_pos f]
 have b:=tm (c8 N l p) l OV q (λn i x a hm d hw=>by simp only [c8,d,if_true,a,OX,hp x hm,hw]) (λn i d=>by simp only [c8,d,OY,if_false]) N 0 OV OV
 rw [show ((0:Nat):Int)=0 from rfl,PD] at b
 rw [g,OX,b]
 cases e:l.findIdx? q with
 | none=>simp [xK e]
 | some j=>
  obtain ⟨h,_,_⟩:=Px.1 e
  have c:decide ((j:Int) = -1)=false:=decide_eq_false OV
  have k:=BO (p:=p) (q:=q) (l.drop (j+1)) (λx a=>hp x (PG a))
  simp only [Option.map_some,OX,P2,c,OY,if_false,ag h,Pd,k,Av e]
theorem Jp {N:Nat} (m:1099000000000≤N) (l:List an) (p:an→Option Bool) (q:an→Bool) (hp:∀ x∈l,p x=some (q x)) (f:l.length≤4294967296):dd N l p=some (l.filter λx=>!q x):=by
 unfold dd eI
 have g:td l=some ():=by unfold td; rw [if_pos f]
 have b:=tm (bA N l p) l OV q (λn i x a hm d hw=>by simp only [bA,d,if_true,a,OX,hp x hm,hw]) (λn i d=>by simp only [bA,d,OY,if_false]) N 0 OV OV
 rw [show ((0:Nat):Int)=0 from rfl,PD] at b
 rw [g,OX,b]
 cases e:l.findIdx? q with
 | none=>simp [xK e]
 | some j=>
  obtain ⟨h,_,_⟩:=Px.1 e
  have c:decide ((j:Int) = -1)=false:=decide_eq_false OV
  have k:=BO (p:=p) (q:=q) (l.drop (j+1)) (λx a=>hp x (PG a))
  simp only [Option.map_some,OX,P2,c,OY,if_false,ag h,Pd,k,Av e]
theorem Ec {N:Nat} (f:1099000000000≤N) (l:List Int) (v:Int) (g:l.length≤4294967296):fa N l v=some (decide (v∈l)):=by
 unfold fa jg
 have b:=tm (cT N l v) l OV (λx=>decide (v=x)) (λn i x d hm a hw=>by simp only [cT,a,if_true,d,OX,hw]) (λn i a=>by simp only [cT,a,OY,if_false]) N 0 OV OV
 rw [show ((0:Nat):Int)=0 from rfl,PD] at b
 rw [b]
 cases c:l.findIdx? (λx=>decide (v=x)) with
 | none=>
  rw [PF] at c
  have : ¬ v∈l:=λh=>by have:=c v h; simp at this
  simp [this]
 | some j=>
  obtain ⟨e,h1,_⟩:=Px.1 c
  have:v∈l:=by simp at h1; rw [h1]; exact P4 e
  simp [this]
theorem HJ {N:Nat} (b:1099000000000≤N) (d:bf) (n:bH) (s:ae) (id:Int) (as:List bk) (g:List aH) (i:Nat) (K:List aH→Int→Option (List bk × List aH)) (r:ah) (c:aG) (w:aH) (A:idx d.Rules (i:Int)=some r) (B:idx n.Chains (i:Int)=some c) (a:SzS r s) (h1:1≤w.Levels.length) (M:w.Levels.length≤(pos r.Pats).length)
  (l:∀ L∈w.Levels,L.Toks.length≤4294967296∧∀ t∈L.Toks,t.Ids.length≤(pos r.Pats).length) (C:∀ L,w.Levels[w.Levels.length - 1]?=some L→∀ t∈L.Toks,t.Hits.length=(neg r.Pats).length∧∀ x∈t.Hits,InR x) :
  fq N d n s id as g (i:Int) K w N w.Levels 0=K (g.set i (jO s.Items (aF s.Items id).1 id r w)) (IntKind.i64.wrap ((i:Int)+1)):=by
 have o:=Ax (r:=r) (c:=c) (as:=as) (s:=s) (id:=id) ⟨a.pl,a.sa,a.pa⟩ a.sl a.fl
 have D:=o.pl
 simp only at D
 have lp:∀ (rest:List ar) (k:Nat) (done:List ar),rest.length < k→w.Levels=done++rest →
   fq N d n s id as g (i:Int) K w k (done.map (iw id)++rest) (done.length:Int)=K (g.set i (jO s.Items (aF s.Items id).1 id r w)) (IntKind.i64.wrap ((i:Int)+1)):=by
  intro rest
  induction rest with
  | nil=>
   intro k done h e
   obtain ⟨k,rfl⟩:∃ m,k=m+1:=⟨k - 1,by simp at h; omega⟩
   have E:w.Levels=done:=by simpa using e
   subst E
   have c1:decide ((w.Levels.length:Int) < (w.Levels.length:Int))=false:=decide_eq_false OV
   have j:IntKind.i64.wrap (((w.Levels.map (iw id)++[]).length:Int) - 1)=((w.Levels.length - 1:Nat):Int):=by
    rw [Pn,Pr,show ((w.Levels.length:Int) - 1)=((w.Levels.length - 1:Nat):Int) by omega]
    exact wr OV OV
   have p:w.Levels.length - 1 < w.Levels.length:=by omega
   have q:w.Levels[w.Levels.length - 1]?=some w.Levels[w.Levels.length - 1]:=Pc p
   have u:(w.Levels.map (iw id))[w.Levels.length - 1]?=some (iw id w.Levels[w.Levels.length - 1]):=by rw [Pw,q]; rfl
   have F:idx (w.Levels.map (iw id)++[]) ((w.Levels.length - 1:Nat):Int)=some (iw id w.Levels[w.Levels.length - 1]):=by rw [Pn,mR,u]
   obtain ⟨v,z2⟩:=l _ (P4 p)
   have O:(iw id w.Levels[w.Levels.length - 1]).Toks.length≤w.Levels[w.Levels.length - 1].Toks.length:=PC _ _
   have f:=EQ b ⟨pos r.Pats,neg r.Pats,c,as,s,id⟩ o (iw id w.Levels[w.Levels.length - 1]).Toks (-1) OV (λt f=>by
    have hm:t∈w.Levels[w.Levels.length - 1].Toks:=(P6.1 f).1
    exact ⟨z2 t hm,(C _ q t hm).1⟩)
   simp only [fq,c1,OY,if_false,j,F,OX,lh,A,B,qx b r false a.pl,qx b r true a.pl,z8,Cv,f,Pd]
   unfold jO cZ
   simp only [Pr,u,Pn]
  | cons L Ls G=>
   intro k done h e
   obtain ⟨k,rfl⟩:∃ m,k=m+1:=⟨k - 1,OV⟩
   simp only [OZ] at h
   have P:w.Levels.length=done.length+(Ls.length+1):=by rw [e]; simp
   have c1:decide ((done.length:Int) < (w.Levels.length:Int))=true:=decide_eq_true OV
   have z:(done.map (iw id)).length=done.length:=by simp
   have H:idx (done.map (iw id)++L :: Ls) (done.length:Int)=some L:=by rw [← z]; exact du _ _ _
   have I:∀ y:ar,(done.map (iw id)++L :: Ls).set (done.length:Int).toNat y=(done.map (iw id)++[y])++Ls:=λy=>by rw [Pd,← z]; exact jd _ _ _ _
   obtain ⟨v,z2⟩:=l L (by rw [e]; simp)
   have j:=Jp b L.Toks (λa0=>iz N a0 id) (λt=>decide (id∈t.Ids)) (λt f=>by
    unfold iz
    rw [Ec b t.Ids id (by have:=z2 t f; omega)]; rfl) v
   simp only [fq,c1,if_true,H,OX,j,I,wr1 done.length OV]
   have:=G k (done++[L]) OV (by rw [e]; simp)
   simp only [P7,OZ,P1,P2,List.map_append,P8,List.map_nil] at this
   exact this
 have:=lp w.Levels N [] OV rfl
 simpa using this
theorem Cn {N:Nat} (o:1099000000000≤N) (d:bf) (n:bH) (m:aJ) (s:ae) (id:Int) (as:List bk) (p:d.Rules.length≤1048576) :
  ∀ (ws:List aH) (b:List ah) (k:Nat) (c:List ah) (a:List aH),ws.length < k→d.Rules=c++b→c.length=a.length→b.length=ws.length→m.Rules.length=a.length+ws.length→n.Chains.length=d.Rules.length →
   (∀ (i:Nat) (r:ah) (w:aH),b[i]?=some r→ws[i]?=some w→SzS r s∧(pos r.Pats).length=ao r.Pats∧1≤w.Levels.length∧w.Levels.length≤(pos r.Pats).length ∧
    (∀ L∈w.Levels,L.Toks.length≤4294967296∧∀ t∈L.Toks,t.Ids.length≤(pos r.Pats).length)∧∀ L,w.Levels[w.Levels.length - 1]?=some L→∀ t∈L.Toks,t.Hits.length=(neg r.Pats).length∧∀ x∈t.Hits,InR x) →
   eB N d n m s id as k (a++ws) (a.length:Int)=some (as,a++nW (jO s.Items (aF s.Items id).1 id) b ws)
 | [],b,k,c,a,hk,h1,e,f,g,l,h=>by
  obtain ⟨k,rfl⟩:∃ j,k=j+1:=⟨k - 1,by simp at hk; omega⟩
  have q:b=[]:=Pq.1 f
  subst q
  have c1:decide ((a.length:Int) < (m.Rules.length:Int))=false:=decide_eq_false (by rw [g]; simp)
  simp only [eB,c1,OY,if_false,nW]
 | w :: ws,[],k,c,a,hk,h1,e,f,g,l,h=>by simp at f
 | w :: ws,r :: b,k,c,a,hk,h1,e,f,g,l,h=>by
  obtain ⟨k,rfl⟩:∃ j,k=j+1:=⟨k - 1,OV⟩
  simp only [OZ] at hk f g
  have F:d.Rules.length=a.length+(b.length+1):=by rw [h1,← e]; simp
  have c1:decide ((a.length:Int) < (m.Rules.length:Int))=true:=decide_eq_true OV
  obtain ⟨u,G,v,y,z,A⟩:=h 0 r w rfl rfl
  have B:idx d.Rules (a.length:Int)=some r:=by rw [h1,← e]; exact du _ _ _
  have C:idx n.Chains (a.length:Int)=some (n.Chains[a.length]'OV):=ag OV
  simp only [eB,c1,if_true,du,OX]
  rw [HJ o d n s id as (a++w :: ws) a.length _ r _ w B C u v y z A]
  simp only [jd,wr1 a.length OV]
  have:=Cn o d n m s id as p ws b k (c++[r]) (a++[jO s.Items (aF s.Items id).1 id r w]) OV (by rw [h1]; simp) (by simp [e]) OV (by simp; omega) l
   (λi D w' E a3=>h (i+1) D w' (by simpa using E) (by simpa using a3))
  simp only [P7,OZ,P1,P2] at this
  rw [this,Pv]
  rfl
theorem JR {N:Nat} (f:1099000000000≤N) (d:bf) (n:bH) (m:aJ) (s:ae) (id:Int) (h:DY d m s) (l:n.Chains.length=d.Rules.length):mZ N d n m s id=some ((tv d m s id).Alphas,(tv d m s id).Rules):=by
 have t:=h.al
 have u:=h.rl
 have v:=h.ld
 unfold mZ
 have lp:∀ (is:List bk) (k:Nat) (a:List bk),is.length < k→m.Alphas.length=a.length+is.length→(∀ i∈is,i.L.length≤1048576) →
   fw N d n m s id k (a++is) (a.length:Int)=eB N d n m s id (a++is.map (xV id)) N m.Rules 0:=by
  intro is
  induction is with
  | nil=>
   intro k a b c e
   obtain ⟨k,rfl⟩:∃ m,k=m+1:=⟨k - 1,by simp at b; omega⟩
   have c1:decide ((a.length:Int) < (m.Alphas.length:Int))=false:=decide_eq_false (by rw [c]; simp)
   simp only [fw,c1,OY,if_false,List.map_nil]
  | cons i is o=>
   intro k a b c e
   obtain ⟨k,rfl⟩:∃ m,k=m+1:=⟨k - 1,OV⟩
   simp only [OZ] at b c
   have c1:decide ((a.length:Int) < (m.Alphas.length:Int))=true:=decide_eq_true OV
   have p:=Ko f i.L (λa0=>jW N a0 id) (λx=>decide (x=id)) (λx _=>rfl) (by have:=e i OW; omega)
   simp only [fw,c1,if_true,du,OX,p,Pd,jd,wr1 a.length OV]
   have:=o k (a++[xV id i]) OV (by simp; omega) (λj q=>e j (by simp [q]))
   simp only [P7,OZ,P1,P2] at this
   refine Eq.trans this ?_
   rw [P8,Pv]; rfl
 have h1:=lp m.Alphas N [] OV OW h.ll
 simp only [Pm,P1,Pg] at h1
 have r:fw N d n m s id N m.Alphas 0=_:=h1
 rw [r]
 have g:=Cn f d n m s id (m.Alphas.map (xV id)) OV m.Rules d.Rules N [] [] OV rfl rfl h.ld OW l h.rows
 simp only [Pm,P1,Pg] at g
 exact g
def may (d:bf) (n:bH) (m:aJ) (s:ae) (id:Int):Bool:=(iq d && decide (n=bB d)) && (fx s && (xd n m && (aF s.Items id).2))
theorem Lk {N:Nat} (a:1099000000000≤N) (d:bf) (n:bH) (m:aJ) (s:ae) (id:Int) (c:pA d) (e:Hs n) (hm:DL m) (b:lE s):nH N d n m s id=some (may d n m s id):=by
 unfold nH may
 rw [JD a n d c e,OX]
 cases iq d && decide (n=bB d) with
 | false=>simp
 | true=>
  rw [y0 a s b]
  cases fx s with
  | false=>simp
  | true=>
   rw [JS a n m hm]
   cases xd n m with
   | false=>simp
   | true=>simp [tx a s id b.1 (λx f=>(b.2 x f).2.1)]
theorem N7 {x:Int} (h:WfI .u8 x):0≤x∧x≤255:=by
 unfold WfI Lit.wf at h
 simp only [P0,decide_eq_true_eq] at h
 have a:IntKind.min .u8=0:=by decide
 have b:IntKind.max .u8=255:=by decide
 omega
theorem NF {N:Nat} {b:List Int} (c:b.length≤1048576) (hw:WfL (WfI .u8) b):∃ v,yQ N b 2=some v∧0≤v:=by
 unfold yQ
 by_cases h:(2:Int) < (b.length:Int)
 ·have e:idx b 2=some (b[2]'OV):=ag (xs:=b) (i:=2) OV
  have a:=N7 (hw.2 _ (P4 (show 2 < b.length by omega)))
  rw [decide_eq_true h,if_pos rfl,e,OX,wr OV OV]
  exact ⟨_,rfl,a.1⟩
 ·rw [decide_eq_false h,if_neg OW]
  refine ⟨_,rfl,?_⟩
  rw [wr (show -9223372036854775808≤(2:Int)*31 by omega) OV,wr (show -9223372036854775808≤(b.length:Int)*7 by omega) OV,wr OV OV]
  exact Int.tmod_nonneg 256 OV
theorem Il {d:bf} {m:aJ} {s:ae} {x:ak} {xs:List ak} {j:Nat} (a:iq d=true) (b:fx s=true) (c:x∈s.Items) (e:m3 d (bB d) j m) (f:rF d (bB d) xs m):may d (bB d) m s x.Id=true:=by
 have g:∀ r∈d.Rules,1≤(pos r.Pats).length:=λr h=>(yu a r h).2.1
 have i:=JZ (oH (jh a)).2.1 e f g
 unfold may
 rw [a,b,i,decide_eq_true rfl,rT s.Items (lN b) c]
 rfl
theorem JA {N:Nat} (e:1099000000000≤N) {d:bf} {m:aJ} {s:ae} {x:ak} {j:Nat} (a:iq d=true) (g:pA d) (f:lE s) (h:fx s=true) (c:x∈s.Items) (n:s.Items.length≤40) (i:j≤40) (b:m3 d (bB d) j m) (k:rF d (bB d) s.Items m) :
  ∃ y,n8 N d (bB d) m s x.Id=some y∧m3 d (bB d) j y∧rF d (bB d) (gB x.Id s.Items) y:=by
 have o:=rA (jh a)
 have l:=yb a i b
 have p:∀ x∈s.Items,x.F.Fields.length≤1048576:=λx c=>(f.2 x c).2.1
 have ok:=AE (s:=s) (id:=x.Id) a g n p i b
 have q:=(oH (jh a)).2.1.len
 refine ⟨tv d m s x.Id,?_,AG b,EF (nx:=s.Next) f.1 (lN h) c b k⟩
 unfold n8
 rw [Hu e m l,OX,Lk e d (bB d) m s x.Id g o l f,OX,Il a h c b k]
 simp only [if_true,JR e d (bB d) m s x.Id ok q,OX,jX]
theorem Ky {N:Nat} (f:1099000000000≤N) {d:bf} {m:aJ} {s:ae} {x:ak} {j:Nat} (a:iq d=true) (g:pA d) (c:lE s) (h:fx s=true) (e:x∈s.Items) (o:s.Items.length≤40) (t:j < 40) (b:m3 d (bB d) j m) (k:rF d (bB d) (gB x.Id s.Items) m) :
  ∃ y,oD N d (bB d) m s x.Id=some y∧m3 d (bB d) (j+1) y∧∀ (i:Nat) (r:ah) (w:aH),d.Rules[i]?=some r→y.Rules[i]?=some w→wy s.Items r w:=by
 have p:=rA (jh a)
 have l:=(oH (jh a)).2.1
 have n:=yb a OV b
 have q:∀ x∈s.Items,x.F.Fields.length≤1048576:=λx e=>(c.2 x e).2.1
 have ok:=vX (s:=s) (id:=x.Id) a g o q OV b
 refine ⟨xf d (bB d) m s x.Id,?_,tD OV c.1 l.len b,GX (nx:=s.Next) c.1 (lN h) e l b k⟩
 unfold oD
 rw [Hu f m n,OX,Lk f d (bB d) m s x.Id g p n c,OX,Il a h e b k]
 simp only [if_true,Lb f d (bB d) m s x.Id ok.ok,OX,kT]
theorem Kh (A B:List ak) (z:ak) (b:((A++z :: B).map (·.Id)).Nodup):gB z.Id (A++z :: B)=A++B:=by
 unfold gB
 rw [List.map_append,P8,List.nodup_append,List.nodup_cons] at b
 obtain ⟨_,⟨h1,_⟩,h2⟩:=b
 have c:A.filter (λy=>!decide (y.Id=z.Id))=A:=Py.2 λy a=>by
  have:=h2 y.Id (P5.2 ⟨y,a,rfl⟩) z.Id OW
  simp [this]
 have d:B.filter (λy=>!decide (y.Id=z.Id))=B:=Py.2 λy a=>by
  have:y.Id≠z.Id:=λq=>h1 (P5.2 ⟨y,a,q⟩)
  simp [this]
 rw [List.filter_append,Ps,decide_eq_true rfl,Pb,if_neg OW,c,d]
theorem Mb {xs:List ak} {i:Nat} (a:i < xs.length) (b:(xs.map (·.Id)).Nodup):gB xs[i].Id xs=xs.take i++xs.drop (i+1):=by
 have e:xs.take i++xs[i] :: xs.drop (i+1)=xs:=by rw [← P3 a,PE]
 have:=Kh (xs.take i) (xs.drop (i+1)) xs[i] (by rw [e]; exact b)
 rw [e] at this
 exact this
theorem GZ {N:Nat} (b:1099000000000≤N) {s:ae} {i:Nat} (f:i < s.Items.length) (a:lE s) (c:fx s=true):o8 N s s.Items[i].Id=some (⟨gB s.Items[i].Id s.Items,s.Next⟩,true):=by
 have g:∀ x∈s.Items,x.F.Fields.length≤1048576:=λx j=>(a.2 x j).2.1
 have l:=a.1
 have d:=lN c
 have key:iQ N s s.Items[i].Id=some (true,⟨gB s.Items[i].Id s.Items,s.Next⟩):=by
  unfold iQ
  have lp:∀ (n k:Nat),k≤i→i - k < n→dQ N s s.Items[i].Id n (k:Int)=some (true,⟨gB s.Items[i].Id s.Items,s.Next⟩):=by
   intro n
   induction n with
   | zero=>intro k _ h; omega
   | succ n m=>
    intro k h1 p
    have hk:k < s.Items.length:=by omega
    have c1:decide ((k:Int) < (s.Items.length:Int))=true:=decide_eq_true OV
    simp only [dQ,c1,if_true,ag hk,OX,wr1 k (show k≤4611686018427387904 by omega)]
    by_cases e:k=i
    ·subst e
     have s1:ssl s.Items 0 (k:Int)=some (s.Items.take k):=by
      unfold ssl
      rw [if_pos ⟨OV,OV,OV⟩]
      simp
     have s2:ssl s.Items ((k+1:Nat):Int) (s.Items.length:Int)=some (s.Items.drop (k+1)):=by
      unfold ssl
      rw [if_pos ⟨OV,OV,OV⟩]
      simp
     simp only [decide_true,if_true,s1,s2,OX,bV (show (s.Items.take k).length+(s.Items.drop (k+1)).length≤4294967296 by simp; omega),Mb hk d]
    ·have o:s.Items[k].Id≠s.Items[i].Id:=by
      have hp:=List.pairwise_iff_getElem.1 (by
       have h:=d
       unfold Pu at h
       rw [PA] at h
       exact h) k i hk f OV
      exact hp
     simp only [o,decide_false,OY,if_false]
     exact m (k+1) OV OV
  exact lp N 0 OV OV
 unfold o8
 simp only [Kp b s l g,y0 b s a,c,OX,if_true,key,ji]
theorem Oc {N:Nat} (a:1099000000000≤N) (l:List Int) (v:Int) (b:l.length≤4294967296):vI N l v=some (decide (v∈l)):=by
 unfold vI
 refine lp0 a l b (l5 N l v) (λt=>some (decide (v∈t))) (λn j x t g1 g2 g3 g4 g5 g6 g7=>?_) (λn j g1 g2=>?_)
 ·simp only [l5,g5,if_true,g4,OX,g6,g7]
  by_cases h:x=v
  ·simp [h]
  ·have c : ¬ v=x:=λe=>h e.symm
   simp [h,c]
 ·simp only [l5,g2,OY,if_false]; simp
theorem all_nil {t:List ah} (h:∀ r∈t,ja r=true):∀ i,dC [] i t=[]:=by
 induction t with
 | nil=>intro i; rfl
 | cons r t b=>
  intro i
  have h1:0 < (r.Pats.take (ao r.Pats)).length:=by
   have hp:=qK (h r OW)
   unfold iy at hp
   simp only [P0,decide_eq_true_eq] at hp
   have:=eh r.Pats
   rw [Pj]; omega
  have c:jw r []=[]:=by
   unfold jw
   cases a:r.Pats.take (ao r.Pats) with
   | nil=>rw [a] at h1; simp at h1
   | cons p ps=>simp [lJ]
  rw [dC,c,b (λq a=>h q (by simp [a]))]
  rfl
theorem FJ {xs:List ak} {id:Int} (hu:pJ (gB id xs)):∀ (t:List ah) (i:Nat) (m:a7),m∈dC (gB id xs) i t→id ∉ m.Ids
 | [],i,m,h=>by simp [dC] at h
 | r :: t,i,m,h=>by
  unfold dC at h
  rcases Po.1 h with h | h
  ·obtain ⟨y,a,rfl⟩:=P5.1 h
   obtain ⟨_,b,_⟩:=pI hu a
   intro hm
   have:=iE (r.Pats.take (ao r.Pats)) y.Ids [] (by rw [b]) id hm
   obtain ⟨z,c,e,_⟩:=qU this
   have:=(P6.1 c).2
   simp [e] at this
  ·exact FJ hu t (i+1) m h
theorem Dz {N:Nat} (H:1099400000000≤N) (b:List Int) (hw:WfL (WfI .u8) b):qj N b=some true:=by
 have a:1099000000000≤N:=by omega
 unfold qj y7
 by_cases o:b.length≤1048576
 ·have c1:decide (1048576 < (b.length:Int))=false:=decide_eq_false OV
  obtain ⟨c,I,g0⟩:=M6 a b o
  obtain ⟨d,m,s,aa,K,h⟩:=Mx a o g0
  have L:oh N b=some (d,bB d,m,s):=by
   unfold oh
   rw [I,OX,K,OX]
  have e:=Co h.def_
  have f:=CZ (CA h.def_)
  have ab:=h.nx
  have hit:=h.it
  have hlen:=hit.2.1
  have g:lE s:=⟨show s.Items.length≤1048576 by omega,yT hit⟩
  have l:=yo hit OV
  obtain ⟨j,hj,p⟩:=h.mem
  have E:=Is a e f g (sf hit) (show j≤40 by omega) p h.has
  simp only [c1,OX,OY,if_false,L]
  by_cases M:s.Items.length=0
  ·have r:=EP a f g e l (show j≤40 by omega) p h.has
   have O:s.Items=[]:=Pq.1 M
   have u:dC s.Items 0 d.Rules=[]:=by rw [O]; exact all_nil (kX e) 0
   have w:decide ((s.Items.length:Int)=0)=true:=decide_eq_true OV
   simp only [w,if_true,r,OX,E,u,P1,Pg,decide_true,kz]
  ·have w:decide ((s.Items.length:Int)=0)=false:=decide_eq_false OV
   obtain ⟨v,P,Q⟩:=NF (N:=N) o hw
   obtain ⟨q,r,ad,ae⟩:=DR Q (show (0:Int) < (s.Items.length:Int) by omega)
   obtain ⟨i,rfl⟩:∃ i:Nat,q=(i:Int):=⟨q.toNat,OV⟩
   have z:i < s.Items.length:=by omega
   have F:=P4 z
   obtain ⟨x,R,A,B⟩:=JA a e f g l F OV (show j≤40 by omega) p h.has
   have S:=GZ a z g l
   have G:=PC (λy:ak=>!decide (y.Id=s.Items[i].Id)) s.Items
   have n:o5 s.Next (gB s.Items[i].Id s.Items):=⟨hit.1,by have:(gB s.Items[i].Id s.Items).length≤s.Items.length:=G; omega,λy T=>hit.2.2.1 y (P6.1 T).1,hit.2.2.2.filter _⟩
   have C:lE ⟨gB s.Items[i].Id s.Items,s.Next⟩:=⟨show (gB s.Items[i].Id s.Items).length≤1048576 by have:(gB s.Items[i].Id s.Items).length≤s.Items.length:=G; omega,yT n⟩
   have D:fx ⟨gB s.Items[i].Id s.Items,s.Next⟩=true:=yo (s:=⟨gB s.Items[i].Id s.Items,s.Next⟩) n (by show s.Next≤40; omega)
   have U:=Is a (s:=⟨gB s.Items[i].Id s.Items,s.Next⟩) e f C (sf n) (show j≤40 by omega) A B
   have V:=EP a (s:=⟨gB s.Items[i].Id s.Items,s.Next⟩) f C e D (show j≤40 by omega) A B
   obtain ⟨y,W,X,Y⟩:=Ky a e f g l F OV (show j < 40 by omega) A B
   have Z:=HE a e f g (sf hit) (show j+1≤40 by omega) X Y
   have u:sL d ⟨gB s.Items[i].Id s.Items,s.Next⟩=dC (gB s.Items[i].Id s.Items) 0 d.Rules:=by unfold sL; rw [e,D]; rfl
   have a1:=LQ H d ⟨gB s.Items[i].Id s.Items,s.Next⟩ f C
   have z1:=Hg e l
   have z2:=Hg e D
   have a6:=AA a _ (dC (gB s.Items[i].Id s.Items) 0 d.Rules) z2
   have a7:=AA a _ (dC s.Items 0 d.Rules) z1
   have a8:=FJ (sf n) d.Rules 0
   simp only [w,OY,if_false,P,r,OX,ag z,R,S,U]
   generalize hX:dC (gB s.Items[i].Id s.Items) 0 d.Rules=now at *
   refine lp0 a now (by have:=z2.1; omega) (i8 N (d,bB d,m,s) s.Items[i] x (⟨gB s.Items[i].Id s.Items,s.Next⟩,true) now) (λ_=>some true) (λk i' q t g1 g2 g3 g4 g5 g6 g7=>?_) (λk i' g1 g2=>?_)
   ·simp only [i8,g5,if_true,g4,OX,Oc a q.Ids s.Items[i].Id (by have:=(z2.2 q g2).1; omega),a8 q g2,decide_false,OY,if_false,g6,g7]
   ·simp only [i8,g2,OY,if_false,W,OX,Z,if_true,V,a1,u,a6,decide_true,ko,kg,E,a7]
 ·have c1:decide (1048576 < (b.length:Int))=true:=decide_eq_true OV
  simp only [c1,OX,if_true]
namespace fnWent
theorem law {a:List Int} (w0:(WfL (WfI .u8)) a):qj 1099511627776 a=some true:=Dz OV a w0
end fnWent
end Go.Proofs.YtedmfnmbjglmbaaGreat
