/- Plain laws, one after the other: PLNetwork. -/
import Derived.Test.YtedmfnmbjglmbaaGreatTNetworkb
import Derived.Test.YtedmfnmbjglmbaaGreatPLib
import Derived.Test.YtedmfnmbjglmbaaGreatWNetworkMod
import Derived.Test.YtedmfnmbjglmbaaGreatWNetworkPur
namespace Go.Proofs.YtedmfnmbjglmbaaGreat
open Eng
set_option linter.unusedVariables false
set_option linter.unusedSimpArgs false
section
variable {α:Type} {lt:α→α→Bool}
theorem lv (l:List α) (i j:Nat):(swp l i j).length=l.length:=by
 unfold swp;split <;> simp
theorem vZ {l:List α} {i j:Nat} {x:α} (h:x∈swp l i j):x∈l:=by
 unfold swp at h
 split at h
 ·rename_i a b c d
  rcases Pr h with h | h
  ·rcases Pr h with h | h
   ·exact h
   ·rw[h];exact jt d
  ·rw[h];exact jt c
 ·exact h
theorem pI (a b:Nat):∀ (n k:Nat) (l:List α),(sD l a b k n).length=l.length
 | 0,_,_=>rfl
 | n+1,k,l=>by unfold sD;rw[pI a b n,lv]
theorem vH {a b:Nat} {x:α}:∀ (n k:Nat) (l:List α),x∈sD l a b k n→x∈l
 | 0,_,_,h=>h
 | n+1,k,l,h=>vZ (vH n (k+1) _ h)
theorem Ba (m:Nat):∀ (f i j:Nat) (l:List α),(rot l m f i j).length=l.length
 | 0,_,_,_=>rfl
 | f+1,i,j,l=>by
  unfold rot
  split
  ·rw[pI]
  ·split <;> rw[Ba m f,pI]
theorem y5 {m:Nat} {x:α}:∀ (f i j:Nat) (l:List α),x∈rot l m f i j→x∈l
 | 0,_,_,_,h=>h
 | f+1,i,j,l,h=>by
  unfold rot at h
  split at h
  ·exact vH _ _ _ h
  ·split at h
   ·exact vH _ _ _ (y5 f _ _ _ h)
   ·exact vH _ _ _ (y5 f _ _ _ h)
theorem ET:∀ (n k:Nat) (l:List α),(shR l k n).length=l.length
 | 0,_,_=>rfl
 | n+1,k,l=>by unfold shR;rw[ET n,lv]
theorem ER {x:α}:∀ (n k:Nat) (l:List α),x∈shR l k n→x∈l
 | 0,_,_,h=>h
 | n+1,k,l,h=>vZ (ER n _ _ h)
theorem Fq:∀ (n k:Nat) (l:List α),(shL l k n).length=l.length
 | 0,_,_=>rfl
 | n+1,k,l=>by unfold shL;rw[Fq n,lv]
theorem Fy {x:α}:∀ (n k:Nat) (l:List α),x∈shL l k n→x∈l
 | 0,_,_,h=>h
 | n+1,k,l,h=>vZ (Fy n _ _ h)
theorem sc:∀ (f:Nat) (l:List α) (a m b:Nat),(nO lt f l a m b).length=l.length∧∀ x∈nO lt f l a m b,x∈l
 | 0,l,a,m,b=>⟨rfl,fun x h=>h⟩
 | f+1,l,a,m,b=>by
  unfold nO
  split
  ·exact⟨ET _ _ _,fun x h=>ER _ _ _ h⟩
  ·split
   ·exact⟨Fq _ _ _,fun x h=>Fy _ _ _ h⟩
   ·simp only
    generalize bsr _ _ _ _=s
    have e:∀ c:Prop,[Decidable c]→(if c then rot l m ((a+b) / 2+m - s - s) (m - s) ((a+b) / 2+m - s - m) else l).length=l.length∧∀ x∈(if c then rot l m ((a+b) / 2+m - s - s) (m - s) ((a+b) / 2+m - s - m) else l),x∈l:=fun c _=>by
     split
     ·exact⟨Ba _ _ _ _ _,fun x h=>y5 _ _ _ _ h⟩
     ·exact⟨rfl,fun x h=>h⟩
    have d:∀ (c:Prop) [Decidable c] (u:List α) (p q r:Nat),(if c then nO lt f u p q r else u).length=u.length∧∀ x∈(if c then nO lt f u p q r else u),x∈u:=fun c _ u p q r=>by
     split
     ·exact sc f u p q r
     ·exact⟨rfl,fun x h=>h⟩
    obtain⟨g,a2⟩:=e (s < m∧m < (a+b) / 2+m - s)
    obtain⟨i,j⟩:=d (a < s∧s < (a+b) / 2) (if s < m∧m < (a+b) / 2+m - s then rot l m ((a+b) / 2+m - s - s) (m - s) ((a+b) / 2+m - s - m) else l) a s ((a+b) / 2)
    obtain⟨c1,c2⟩:=d ((a+b) / 2 < (a+b) / 2+m - s∧(a+b) / 2+m - s < b) (if a < s∧s < (a+b) / 2 then nO lt f (if s < m∧m < (a+b) / 2+m - s then rot l m ((a+b) / 2+m - s - s) (m - s) ((a+b) / 2+m - s - m) else l) a s ((a+b) / 2) else (if s < m∧m < (a+b) / 2+m - s then rot l m ((a+b) / 2+m - s - s) (m - s) ((a+b) / 2+m - s - m) else l)) ((a+b) / 2) ((a+b) / 2+m - s) b
    exact⟨by rw[c1,i,g],fun x h=>a2 x (j x (c2 x h))⟩
theorem wI:∀ (f:Nat) (l:List α) (a j:Nat),(A7 lt f l a j).length=l.length∧∀ x∈A7 lt f l a j,x∈l
 | 0,l,a,j=>⟨rfl,fun x h=>h⟩
 | f+1,l,a,j=>by
  unfold A7
  split
  ·obtain⟨h1,b⟩:=wI f (swp l (j - 1) j) a (j - 1)
   exact⟨by rw[h1,lv],fun x h=>vZ (b x h)⟩
  ·exact⟨rfl,fun x h=>h⟩
theorem uv:∀ (f:Nat) (l:List α) (a i b:Nat),(vl lt f l a i b).length=l.length∧∀ x∈vl lt f l a i b,x∈l
 | 0,l,a,i,b=>⟨rfl,fun x h=>h⟩
 | f+1,l,a,i,b=>by
  unfold vl
  split
  ·obtain⟨h1,c⟩:=uv f (A7 lt (i - a+1) l a i) a (i+1) b
   obtain⟨g1,g2⟩:=wI (lt:=lt) (i - a+1) l a i
   exact⟨by rw[h1,g1],fun x h=>g2 x (c x h)⟩
  ·exact⟨rfl,fun x h=>h⟩
end
theorem wA {x y:Nat} (h:x+y≤4611686018427387904):IntKind.i64.wrap ((x:Int)+(y:Int))=((x+y:Nat):Int):=by
 rw[wr OY OY];omega
theorem wS {x y:Nat} (h:y≤x) (a:x≤4611686018427387904):IntKind.i64.wrap ((x:Int) - (y:Int))=((x - y:Nat):Int):=by
 rw[wr OY OY];omega
theorem wS1 {x:Nat} (h:1≤x) (a:x≤4611686018427387904):IntKind.i64.wrap ((x:Int) - 1)=((x - 1:Nat):Int):=by
 rw[wr OY OY];omega
theorem Dl {x y:Nat} (h:x+y≤4611686018427387904):IntKind.i64.wrap (fg .u64 (IntKind.u64.wrap (IntKind.i64.wrap ((x:Int)+(y:Int)))) 1)=(((x+y) / 2:Nat):Int):=by
 rw[wA h]
 have hu:IntKind.u64.wrap ((x+y:Nat):Int)=((x+y:Nat):Int):=by
  simp only[IntKind.wrap,IntKind.bits,IntKind.signed,Bool.false_and,gf,if_false]
  have a:(2:Int) ^ 64=18446744073709551616:=by decide
  rw[a];omega
 rw[hu]
 have b:fg .u64 ((x+y:Nat):Int) 1=(((x+y) / 2:Nat):Int):=by
  unfold fg
  have e:(2:Int) ^ (min (1:Int).toNat IntKind.u64.bits)=2:=by decide
  rw[e,Int.fdiv_eq_ediv_of_nonneg _ OY]
  omega
 rw[b]
 exact wr OY OY
theorem sw {α:Type} {l:List α} {i j:Nat} {x y:α} (h1:l[i]?=some x) (a:l[j]?=some y):swp l i j=(l.set i y).set j x:=by
 unfold swp;rw[h1,a]
theorem Fp (N a b n:Nat):∀ (fuel:Nat) (l:List a7) (i:Nat),n - i < fuel→i≤n→a+n≤l.length→b+n≤l.length→l.length≤4294967296 →
  bB N (a:Int) (b:Int) (n:Int) fuel l (i:Int)=some (sD l a b i (n - i))
 | 0,l,i,h,_,_,_,_=>by omega
 | fuel+1,l,i,h,o,g,j,k=>by
  by_cases c:i < n
  ·have c1:decide ((i:Int) < (n:Int))=true:=decide_eq_true OY
   have d:a+i < l.length:=by omega
   have e:b+i < l.length:=by omega
   have m:b+i < (l.set (a+i) l[b+i]).length:=by rw[my];omega
   have f:=Fp N a b n fuel (swp l (a+i) (b+i)) (i+1) OY OY (by rw[lv];exact g) (by rw[lv];exact j) (by rw[lv];exact k)
   rw[sw (gm d) (gm e)] at f
   rw[show n - i=(n - (i+1))+1 by omega,sD,sw (gm d) (gm e)]
   simp only[bB,c1,if_true,wA (x:=b) (y:=i) OY,wA (x:=a) (y:=i) OY,ag d,ag e,gb,hX,ag m,wr1 i OY,f]
  ·have c1:decide ((i:Int) < (n:Int))=false:=decide_eq_false OY
   rw[show n - i=0 by omega]
   simp only[bB,c1,gf,if_false,sD]
theorem Ex {N a b n:Nat} (p:a7→a7→Option Int) (l:List a7) (f:n < N) (c:a+n≤l.length) (d:b+n≤l.length) (e:l.length≤4294967296):bP N l (a:Int) (b:Int) (n:Int) p=some (sD l a b 0 n):=by
 unfold bP
 have:=Fp N a b n N l 0 OY OY c d e
 simpa using this
theorem HI {N m:Nat} (p:a7→a7→Option Int):∀ (f fuel:Nat) (l:List a7) (i j:Nat),i+j≤f→f < fuel→f < N→0 < i→0 < j→i≤m→m+j≤l.length→l.length≤4294967296 →
  bk N (m:Int) p fuel l (i:Int) (j:Int)=some (rot l m f i j)
 | 0,_,_,_,_,h1,_,_,q,_,_,_,_=>by omega
 | f+1,0,_,_,_,_,r,_,_,_,_,_,_=>by omega
 | f+1,fuel+1,l,i,j,h1,r,t,q,s,e,g,d=>by
  unfold rot
  by_cases c:i=j
  ·subst c
   have:=Ex (N:=N) (a:=m - i) (b:=m) (n:=i) p l OY OY g d
   simp only[bk,decide_true,hC,gf,if_false,wS (x:=m) (y:=i) e OY,this,gb,if_true]
  ·have c1:decide ((i:Int)=(j:Int))=false:=decide_eq_false OY
   by_cases c2:j < i
   ·have h:decide ((j:Int) < (i:Int))=true:=decide_eq_true OY
    have k:=Ex (N:=N) (a:=m - i) (b:=m) (n:=j) p l OY OY g d
    have o:=HI (N:=N) (m:=m) p f fuel (sD l (m - i) m 0 j) (i - j) j OY OY OY OY s OY (by rw[pI];exact g) (by rw[pI];exact d)
    simp only[bk,c1,hG,if_true,h,wS (x:=m) (y:=i) e OY,k,gb,wS (x:=i) (y:=j) OY OY,o,if_neg c,if_pos c2]
   ·have h:decide ((j:Int) < (i:Int))=false:=decide_eq_false OY
    have k:=Ex (N:=N) (a:=m - i) (b:=m+j - i) (n:=i) p l OY OY OY d
    have o:=HI (N:=N) (m:=m) p f fuel (sD l (m - i) (m+j - i) 0 i) i (j - i) OY OY OY q OY e (by rw[pI];omega) (by rw[pI];exact d)
    simp only[bk,c1,hG,if_true,h,gf,if_false,wS (x:=m) (y:=i) e OY,wA (x:=m) (y:=j) OY,wS (x:=m+j) (y:=i) OY OY,k,gb,wS (x:=j) (y:=i) OY OY,o,if_neg c,if_neg c2]
theorem Hn {N a m b:Nat} (p:a7→a7→Option Int) (l:List a7) (c:b - a < N) (h1:a < m) (e:m < b) (f:b≤l.length) (d:l.length≤4294967296) :
  dD N l (a:Int) (m:Int) (b:Int) p=some (rot l m (b - a) (m - a) (b - m)):=by
 unfold dD
 rw[wS (x:=m) (y:=a) OY OY,wS (x:=b) (y:=m) OY OY]
 exact HI p (b - a) N l (m - a) (b - m) OY c c OY OY OY OY d
def tj (p:a7→a7→Option Int) (lt:a7→a7→Bool) (l:List a7):Prop:=∀ x∈l,∀ y∈l,∃ v,p x y=some v∧lt x y=decide (v < 0)
theorem tj.sub {p:a7→a7→Option Int} {lt:a7→a7→Bool} {l u:List a7} (h:tj p lt l) (a:∀ x∈u,x∈l):tj p lt u:=fun x b y c=>h x (a x b) y (a y c)
theorem tj.at_ {p:a7→a7→Option Int} {lt:a7→a7→Bool} {l:List a7} (h:tj p lt l) {i j:Nat} (a:i < l.length) (b:j < l.length):∃ v,p l[i] l[j]=some v∧uy lt l i j=decide (v < 0):=by
 obtain⟨v,h1,c⟩:=h _ (hB a) _ (hB b)
 exact⟨v,h1,by rw[mD (gm a) (gm b),c]⟩
theorem KY (N a:Nat):∀ (fuel:Nat) (l:List a7) (k:Nat),a - k < fuel→1≤a→a≤l.length→l.length≤4294967296→ct N (a:Int) fuel l (k:Int)=some (shR l k (a - 1 - k))
 | 0,l,k,h,_,_,_=>by omega
 | fuel+1,l,k,h,h1,f,g=>by
  rw[ct,wS1 h1 OY]
  by_cases c:k < a - 1
  ·have c1:decide ((k:Int) < ((a - 1:Nat):Int))=true:=decide_eq_true OY
   have b:k < l.length:=by omega
   have d:k+1 < l.length:=by omega
   have i:k+1 < (l.set k l[k+1]).length:=by rw[my];omega
   have e:=KY N a fuel (swp l k (k+1)) (k+1) OY h1 (by rw[lv];exact f) (by rw[lv];exact g)
   rw[sw (gm b) (gm d)] at e
   rw[show a - 1 - k=(a - 1 - (k+1))+1 by omega,shR,sw (gm b) (gm d)]
   simp only[c1,if_true,wr1 k OY,ag b,ag d,gb,hX,ag i,e]
  ·have c1:decide ((k:Int) < ((a - 1:Nat):Int))=false:=decide_eq_false OY
   rw[show a - 1 - k=0 by omega]
   simp only[c1,gf,if_false,shR]
theorem Lf (N a:Nat):∀ (fuel:Nat) (l:List a7) (k:Nat),k - a < fuel→k < l.length→l.length≤4294967296→cr N (a:Int) fuel l (k:Int)=some (shL l k (k - a))
 | 0,l,k,h,_,_=>by omega
 | fuel+1,l,k,h,b,g=>by
  rw[cr]
  by_cases c:a < k
  ·have c1:decide ((a:Int) < (k:Int))=true:=decide_eq_true OY
   have d:k - 1 < l.length:=by omega
   have i:k - 1 < (l.set k l[k - 1]).length:=by rw[my];omega
   have f:=Lf N a fuel (swp l (k - 1) k) (k - 1) OY (by rw[lv];omega) (by rw[lv];exact g)
   have e:=sw (gm d) (gm b)
   rw[List.set_comm _ _ (show k - 1≠k by omega)] at e
   rw[e] at f
   rw[show k - a=(k - 1 - a)+1 by omega,shL,e]
   simp only[c1,if_true,wS1 (x:=k) OY OY,ag d,ag b,gb,hX,ag i,f]
  ·have c1:decide ((a:Int) < (k:Int))=false:=decide_eq_false OY
   rw[show k - a=0 by omega]
   simp only[c1,gf,if_false,shL]
theorem IB {N a:Nat} {p:a7→a7→Option Int} {lt:a7→a7→Bool} {l:List a7} (d:tj p lt l) (b:a < l.length) (e:l.length≤4294967296) (g:l.length < N) :
  ∀ (f fuel i j:Nat),j - i < f→j - i < fuel→a < i→i≤j→j≤l.length→bu N l (a:Int) p fuel (i:Int) (j:Int)=some (shR l a (bsr (fun h=>uy lt l h a) f i j - 1 - a))
 | 0,_,_,_,h,_,_,_,_=>by omega
 | f+1,0,_,_,_,h,_,_,_=>by omega
 | f+1,fuel+1,i,j,h1,o,m,q,n=>by
  rw[bu,bsr]
  by_cases c:i < j
  ·have c1:decide ((i:Int) < (j:Int))=true:=decide_eq_true OY
   have hm:(i+j) / 2 < l.length:=by omega
   obtain⟨v,v1,v2⟩:=d.at_ hm b
   simp only[c1,if_true,Dl (x:=i) (y:=j) OY,ag hm,ag b,gb,v1,if_pos c,v2]
   by_cases k:v < 0
   ·simp only[k,decide_true,if_true,wr1 ((i+j) / 2) OY]
    exact IB d b e g f fuel _ _ OY OY OY OY n
   ·simp only[k,decide_false,gf,if_false]
    exact IB d b e g f fuel _ _ OY OY m OY OY
  ·have c1:decide ((i:Int) < (j:Int))=false:=decide_eq_false OY
   simp only[c1,gf,if_false,if_neg c]
   exact KY N i N l a OY OY OY e
theorem Im {N m:Nat} {p:a7→a7→Option Int} {lt:a7→a7→Bool} {l:List a7} (b:tj p lt l) (a:m < l.length) (d:l.length≤4294967296) (e:l.length < N) :
  ∀ (f fuel i j:Nat),j - i < f→j - i < fuel→i≤j→j≤m→br N l (m:Int) p fuel (i:Int) (j:Int)=some (shL l m (m - bsr (fun h=>!uy lt l m h) f i j))
 | 0,_,_,_,h,_,_,_=>by omega
 | f+1,0,_,_,_,h,_,_=>by omega
 | f+1,fuel+1,i,j,h1,n,o,k=>by
  rw[br,bsr]
  by_cases c:i < j
  ·have c1:decide ((i:Int) < (j:Int))=true:=decide_eq_true OY
   have hm:(i+j) / 2 < l.length:=by omega
   obtain⟨v,v1,v2⟩:=b.at_ a hm
   simp only[c1,if_true,Dl (x:=i) (y:=j) OY,ag hm,ag a,gb,v1,if_pos c,v2]
   by_cases g:v < 0
   ·simp only[g,decide_true,hC,gf,if_false]
    exact Im b a d e f fuel _ _ OY OY OY OY
   ·simp only[g,decide_false,hG,if_true,wr1 ((i+j) / 2) OY]
    exact Im b a d e f fuel _ _ OY OY OY k
  ·have c1:decide ((i:Int) < (j:Int))=false:=decide_eq_false OY
   simp only[c1,gf,if_false,if_neg c]
   exact Lf N i N l m OY a d
theorem I1 {a b:Prop} [Decidable a] [Decidable b]:(if decide a=true then some (decide b) else some false)=some (decide (a∧b)):=by
 by_cases h:a <;> simp[h]
theorem MF {N f a m b s:Nat} {p:a7→a7→Option Int} {lt:a7→a7→Bool} {RF:List a7→Int→Int→Int→(a7→a7→Option Int)→Option (List a7)} (u:List a7) (hu:u.length≤4294967296) (hm:m < b) (h:a < m) (i:b≤u.length) (j:s≤(a+b) / 2)
  (d:(a+b) / 2 < (a+b) / 2+m - s→(a+b) / 2+m - s < b→RF u (((a+b) / 2:Nat):Int) (((a+b) / 2+m - s:Nat):Int) (b:Int) p=some (nO lt f u ((a+b) / 2) ((a+b) / 2+m - s) b)) :
  cq N (a:Int) (m:Int) (b:Int) p RF (s:Int) u=some (if (a+b) / 2 < (a+b) / 2+m - s∧(a+b) / 2+m - s < b then nO lt f u ((a+b) / 2) ((a+b) / 2+m - s) b else u):=by
 have e:((((a+b) / 2:Nat):Int) < (((a+b) / 2+m - s:Nat):Int))=((a+b) / 2 < (a+b) / 2+m - s):=propext w3
 have g:((((a+b) / 2+m - s:Nat):Int) < (b:Int))=((a+b) / 2+m - s < b):=propext w3
 unfold cq
 simp only[Dl (x:=a) (y:=b) OY,wA (x:=(a+b) / 2) (y:=m) OY,wS (x:=(a+b) / 2+m) (y:=s) OY OY,I1,gb,e,g]
 by_cases c:(a+b) / 2 < (a+b) / 2+m - s∧(a+b) / 2+m - s < b
 ·simp only[c,and_self,decide_true,if_true,d c.1 c.2,gb]
 ·simp only[c,decide_false,gf,if_false]
theorem Iu {N f a m b s:Nat} {p:a7→a7→Option Int} {lt:a7→a7→Bool} {RF:List a7→Int→Int→Int→(a7→a7→Option Int)→Option (List a7)} (l u:List a7) (h:u.length=l.length) (i:∀ x∈u,x∈l) (hu:l.length≤4294967296) (hm:m < b) (n:a < m) (o:b≤l.length) (q:s≤(a+b) / 2) (E:b - a≤f+1)
  (j:∀ (v:List a7) (e g d:Nat),v.length=l.length→(∀ x∈v,x∈l)→e < g→g < d→d≤l.length→d - e≤f→RF v (e:Int) (g:Int) (d:Int) p=some (nO lt f v e g d)) :
  cu N (a:Int) (m:Int) (b:Int) p RF (s:Int) u=some (if (a+b) / 2 < (a+b) / 2+m - s∧(a+b) / 2+m - s < b then nO lt f (if a < s∧s < (a+b) / 2 then nO lt f u a s ((a+b) / 2) else u) ((a+b) / 2) ((a+b) / 2+m - s) b else (if a < s∧s < (a+b) / 2 then nO lt f u a s ((a+b) / 2) else u)):=by
 have r:((a:Int) < (s:Int))=(a < s):=propext w3
 have t:((s:Int) < (((a+b) / 2:Nat):Int))=(s < (a+b) / 2):=propext w3
 unfold cu
 simp only[Dl (x:=a) (y:=b) OY,I1,gb,r,t]
 have k:=fun(v:List a7) (h1:v.length=l.length) (w:∀ x∈v,x∈l)=>MF (N:=N) (f:=f) (lt:=lt) (RF:=RF) (p:=p) (s:=s) v OY hm n OY q (fun z A=>j v _ _ _ h1 w z A o OY)
 by_cases c:a < s∧s < (a+b) / 2
 ·obtain⟨B,C⟩:=sc (lt:=lt) f u a s ((a+b) / 2)
  simp only[c,and_self,decide_true,if_true,j u a s ((a+b) / 2) h i c.1 c.2 OY OY,gb]
  exact k _ (by rw[B,h]) (fun x D=>i x (C x D))
 ·simp only[c,decide_false,gf,if_false]
  exact k u h i
theorem Eg {N f a m b:Nat} {p:a7→a7→Option Int} {lt:a7→a7→Bool} {RF:List a7→Int→Int→Int→(a7→a7→Option Int)→Option (List a7)} (l:List a7) (u:tj p lt l) (hu:l.length≤4294967296) (z:l.length < N) (hm:m < b) (k:a < m) (n:b≤l.length) (o:b - a≤f+1)
  (q:∀ (v:List a7) (r t d:Nat),v.length=l.length→(∀ x∈v,x∈l)→r < t→t < d→d≤l.length→d - r≤f→RF v (r:Int) (t:Int) (d:Int) p=some (nO lt f v r t d)) :
  ∀ (g fuel i j:Nat),j - i < g→j - i < fuel→i≤j→j≤(a+b) / 2→j≤m→a≤i→(a+b) / 2+m≤b+i →
   bt N l (a:Int) (m:Int) (b:Int) p RF fuel (i:Int) (j:Int)=some (
    let s:=bsr (fun c=>!uy lt l ((a+b) / 2+m - 1 - c) c) g i j
    let e:=(a+b) / 2+m - s
    let l1:=if s < m∧m < e then rot l m (e - s) (m - s) (e - m) else l
    let l2:=if a < s∧s < (a+b) / 2 then nO lt f l1 a s ((a+b) / 2) else l1
    if (a+b) / 2 < e∧e < b then nO lt f l2 ((a+b) / 2) e b else l2)
 | 0,_,_,_,h,_,_,_,_,_,_=>by omega
 | g+1,0,_,_,_,h,_,_,_,_,_=>by omega
 | g+1,fuel+1,i,j,h1,K,L,C,D,E,F=>by
  rw[bt,bsr]
  by_cases c:i < j
  ·have c1:decide ((i:Int) < (j:Int))=true:=decide_eq_true OY
   have A:(i+j) / 2 < l.length:=by omega
   have hp:(a+b) / 2+m - 1 - (i+j) / 2 < l.length:=by omega
   obtain⟨v,v1,v2⟩:=u.at_ hp A
   simp only[c1,if_true,Dl (x:=a) (y:=b) OY,Dl (x:=i) (y:=j) OY,wA (x:=(a+b) / 2) (y:=m) OY,wS1 (x:=(a+b) / 2+m) OY OY,wS (x:=(a+b) / 2+m - 1) (y:=(i+j) / 2) OY OY,ag A,ag hp,gb,v1,if_pos c,v2]
   by_cases B:v < 0
   ·simp only[B,decide_true,hC,gf,if_false]
    exact Eg l u hu z hm k n o q g fuel _ _ OY OY OY OY OY E F
   ·simp only[B,decide_false,hG,if_true,wr1 ((i+j) / 2) OY]
    exact Eg l u hu z hm k n o q g fuel _ _ OY OY OY C D OY OY
  ·have c1:decide ((i:Int) < (j:Int))=false:=decide_eq_false OY
   have G:((i:Int) < (m:Int))=(i < m):=propext w3
   have H:((m:Int) < (((a+b) / 2+m - i:Nat):Int))=(m < (a+b) / 2+m - i):=propext w3
   simp only[c1,gf,if_false,if_neg c,Dl (x:=a) (y:=b) OY,wA (x:=(a+b) / 2) (y:=m) OY,wS (x:=(a+b) / 2+m) (y:=i) OY OY,I1,gb,G,H]
   by_cases c2:i < m∧m < (a+b) / 2+m - i
   ·have I:=Hn (N:=N) (a:=i) (m:=m) (b:=(a+b) / 2+m - i) p l OY c2.1 c2.2 OY hu
    simp only[c2,and_self,decide_true,if_true,I,gb]
    exact Iu l _ (Ba _ _ _ _ _) (fun x w=>y5 _ _ _ _ w) hu hm k n OY o q
   ·simp only[c2,decide_false,gf,if_false]
    exact Iu l l rfl (fun x w=>w) hu hm k n OY o q
theorem E1 {p:a7→a7→Option Int} {lt:a7→a7→Bool}:∀ (f N:Nat) (l:List a7) (a m b:Nat),tj p lt l→l.length≤4294967296→l.length+f < N→a < m→m < b→b≤l.length→b - a≤f →
  aD N l (a:Int) (m:Int) (b:Int) p=some (nO lt f l a m b)
 | 0,_,_,_,_,_,_,_,_,h1,k,_,i=>by omega
 | f+1,0,_,_,_,_,_,_,h,_,_,_,_=>by omega
 | f+1,N+1,l,a,m,b,g,j,s,h1,k,i,q=>by
  rw[aD,wS (x:=m) (y:=a) OY OY,wS (x:=b) (y:=m) OY OY,Dl (x:=a) (y:=b) OY]
  unfold nO
  by_cases c1:m - a=1
  ·have d1:decide (((m - a:Nat):Int)=1)=true:=decide_eq_true OY
   rw[d1,if_pos rfl,if_pos c1]
   exact IB g OY j OY (b - m+1) N m b OY OY h1 OY i
  ·have d1:decide (((m - a:Nat):Int)=1)=false:=decide_eq_false OY
   rw[d1,if_neg OZ,if_neg c1]
   by_cases c2:b - m=1
   ·have d2:decide (((b - m:Nat):Int)=1)=true:=decide_eq_true OY
    rw[d2,if_pos rfl,if_pos c2]
    exact Im g OY j OY (m - a+1) N a m OY OY OY (hz _)
   ·have d2:decide (((b - m:Nat):Int)=1)=false:=decide_eq_false OY
    rw[d2,if_neg OZ,if_neg c2]
    have r:∀ (v:List a7) (d e c:Nat),v.length=l.length→(∀ x∈v,x∈l)→d < e→e < c→c≤l.length→c - d≤f→aD N v (d:Int) (e:Int) (c:Int) p=some (nO lt f v d e c):=
     fun v d e c g1 g2 g3 g4 g5 g6=>E1 f N v d e c (g.sub g2) OY OY g3 g4 OY g6
    have n:=Eg (N:=N) (f:=f) (a:=a) (m:=m) (b:=b) (lt:=lt) l g j OY k h1 i q r
    by_cases o:(a+b) / 2 < m
    ·have d3:decide ((((a+b) / 2:Nat):Int) < (m:Int))=true:=decide_eq_true OY
     simp only[d3,if_true,if_pos o,bG,wA (x:=(a+b) / 2) (y:=m) OY,wS (x:=(a+b) / 2+m) (y:=b) OY OY]
     exact n ((a+b) / 2 - ((a+b) / 2+m - b)+1) N ((a+b) / 2+m - b) ((a+b) / 2) OY OY OY (hz _) OY OY OY
    ·have d3:decide ((((a+b) / 2:Nat):Int) < (m:Int))=false:=decide_eq_false OY
     simp only[d3,gf,if_false,if_neg o,bG]
     exact n (m - a+1) N a m OY OY OY OY (hz _) (hz _) OY
section
variable {α:Type} {lt:α→α→Bool}
theorem B1 (s:Nat):∀ (f:Nat) (l:List α) (a n:Nat),(yy lt s f l a n).length=l.length∧∀ x∈yy lt s f l a n,x∈l
 | 0,l,a,n=>⟨rfl,fun x h=>h⟩
 | f+1,l,a,n=>by
  unfold yy
  split
  ·obtain⟨h1,b⟩:=uv (lt:=lt) (s+1) l a (a+1) (a+s)
   obtain⟨g1,g2⟩:=B1 s f (vl lt (s+1) l a (a+1) (a+s)) (a+s) n
   exact⟨by rw[g1,h1],fun x h=>b x (g2 x h)⟩
  ·exact uv _ _ _ _ _
theorem Cx (F s:Nat):∀ (f:Nat) (l:List α) (a n:Nat),(pas lt F s f l a n).length=l.length∧∀ x∈pas lt F s f l a n,x∈l
 | 0,l,a,n=>⟨rfl,fun x h=>h⟩
 | f+1,l,a,n=>by
  unfold pas
  split
  ·obtain⟨h1,b⟩:=sc (lt:=lt) F l a (a+s) (a+2*s)
   obtain⟨g1,g2⟩:=Cx F s f (nO lt F l a (a+s) (a+2*s)) (a+2*s) n
   exact⟨by rw[g1,h1],fun x h=>b x (g2 x h)⟩
  ·split
   ·exact sc _ _ _ _ _
   ·exact⟨rfl,fun x h=>h⟩
end
variable {p:a7→a7→Option Int} {lt:a7→a7→Bool}
theorem IN {N a i:Nat} (K:List a7→Int→Option (List a7)):∀ (f fuel:Nat) (l:List a7) (j:Nat),j - a < f→j - a < fuel→j < l.length→tj p lt l→l.length≤4294967296 →
  bE N (a:Int) p (i:Int) K fuel l (j:Int)=K (A7 lt f l a j) (IntKind.i64.wrap ((i:Int)+1))
 | 0,_,_,_,h,_,_,_,_=>by omega
 | f+1,0,_,_,_,h,_,_,_=>by omega
 | f+1,fuel+1,l,j,h1,r,b,g,n=>by
  rw[bE,A7]
  by_cases c:a < j
  ·have c1:decide ((a:Int) < (j:Int))=true:=decide_eq_true OY
   have d:j - 1 < l.length:=by omega
   have o:j - 1 < (l.set j l[j - 1]).length:=by rw[my];omega
   obtain⟨v,v1,v2⟩:=g.at_ b d
   simp only[c1,if_true,wS1 (x:=j) OY OY,ag b,ag d,gb,v1,v2]
   by_cases k:v < 0
   ·have e:=sw (gm d) (gm b)
    rw[List.set_comm _ _ (show j - 1≠j by omega)] at e
    have m:=IN (N:=N) (a:=a) (i:=i) K f fuel (swp l (j - 1) j) (j - 1) OY OY (by rw[lv];omega) (g.sub fun x q=>vZ q) (by rw[lv];exact n)
    rw[e] at m
    simp only[k,decide_true,if_true,hX,ag o,gb,c,and_self,e,m]
   ·simp only[k,decide_false,gf,if_false,and_false]
  ·have c1:decide ((a:Int) < (j:Int))=false:=decide_eq_false OY
   simp only[c1,gf,if_false,gb,c,false_and]
theorem HY {N a b:Nat} (e:b < N):∀ (f fuel:Nat) (l:List a7) (i:Nat),b - i < f→b - i < fuel→b≤l.length→tj p lt l→l.length≤4294967296 →
  bg N (a:Int) (b:Int) p fuel l (i:Int)=some (vl lt f l a i b)
 | 0,_,_,_,h,_,_,_,_=>by omega
 | f+1,0,_,_,_,h,_,_,_=>by omega
 | f+1,fuel+1,l,i,h1,k,m,d,g=>by
  rw[bg,vl]
  by_cases c:i < b
  ·have c1:decide ((i:Int) < (b:Int))=true:=decide_eq_true OY
   obtain⟨n,j⟩:=wI (lt:=lt) (i - a+1) l a i
   rw[c1,if_pos rfl,if_pos c,IN (lt:=lt) _ (i - a+1) N l i OY OY OY d g,wr1 i OY]
   exact HY e f fuel _ (i+1) OY OY OY (d.sub j) OY
  ·have c1:decide ((i:Int) < (b:Int))=false:=decide_eq_false OY
   rw[c1,if_neg OZ,if_neg c]
theorem L0 {N a b f:Nat} (l:List a7) (c:b < N) (d:b - (a+1) < f) (e:b≤l.length) (i:a≤b) (g:tj p lt l) (h:l.length≤4294967296) :
  bN N l (a:Int) (b:Int) p=some (vl lt f l a (a+1) b):=by
 unfold bN
 rw[wr1 a OY]
 exact HY c f N l (a+1) d OY e g h
theorem HU {N n:Nat} (d:n < N):∀ (f fuel:Nat) (l:List a7) (a:Nat),n - a < f→n - a < fuel→a≤n→n≤l.length→tj p lt l→l.length≤4294967296 →
  bQ N (n:Int) p fuel l (a:Int) ((a+20:Nat):Int)=bl N (n:Int) p N (yy lt 20 f l a n) 20
 | 0,_,_,_,h,_,_,_,_,_=>by omega
 | f+1,0,_,_,_,h,_,_,_,_=>by omega
 | f+1,fuel+1,l,a,h1,m,i,j,b,g=>by
  rw[bQ,yy]
  by_cases c:a+20≤n
  ·have c1:decide (((a+20:Nat):Int)≤(n:Int))=true:=decide_eq_true OY
   obtain⟨o,k⟩:=uv (lt:=lt) (20+1) l a (a+1) (a+20)
   have e:IntKind.i64.wrap (((a+20:Nat):Int)+20)=((a+20+20:Nat):Int):=wA (x:=a+20) (y:=20) OY
   rw[c1,if_pos rfl,if_pos c,L0 (lt:=lt) (f:=20+1) l OY OY OY OY b g,gb,e]
   exact HU d f fuel _ (a+20) OY OY c OY (b.sub k) OY
  ·have c1:decide (((a+20:Nat):Int)≤(n:Int))=false:=decide_eq_false OY
   rw[c1,if_neg OZ,if_neg c,L0 (lt:=lt) (f:=n - a+1) l d OY j i b g,gb]
theorem KN {N n F s:Nat} (e:n≤4294967296) (g:0 < s) (i:s < n) (j:n≤F) (k:n+F < N) (K:List a7→Int→Option (List a7)):∀ (f fuel:Nat) (l:List a7) (a:Nat),n - a < f→n - a < fuel→a≤n→l.length=n→tj p lt l →
  cF N (n:Int) p (s:Int) K fuel l (a:Int) ((a+2*s:Nat):Int)=K (pas lt F s f l a n) ((2*s:Nat):Int)
 | 0,_,_,_,h,_,_,_,_=>by omega
 | f+1,0,_,_,_,h,_,_,_=>by omega
 | f+1,fuel+1,l,a,h1,r,t,u,b=>by
  rw[cF,pas]
  have m:IntKind.i64.wrap ((s:Int)*2)=((2*s:Nat):Int):=by rw[wr OY OY];omega
  have o:IntKind.i64.wrap (2*(s:Int))=((2*s:Nat):Int):=by rw[wr OY OY];omega
  rw[wA (x:=a) (y:=s) OY,m]
  by_cases c:a+2*s≤n
  ·have c1:decide (((a+2*s:Nat):Int)≤(n:Int))=true:=decide_eq_true OY
   obtain⟨v,q⟩:=sc (lt:=lt) F l a (a+s) (a+2*s)
   have d:=E1 F N l a (a+s) (a+2*s) b OY OY OY OY OY OY
   rw[c1,if_pos rfl,if_pos c,d,gb,o,wA (x:=a+2*s) (y:=2*s) OY]
   exact KN e g i j k K f fuel _ (a+2*s) OY OY c OY (b.sub q)
  ·have c1:decide (((a+2*s:Nat):Int)≤(n:Int))=false:=decide_eq_false OY
   rw[c1,if_neg OZ,if_neg c]
   by_cases c2:a+s < n
   ·have d1:decide (((a+s:Nat):Int) < (n:Int))=true:=decide_eq_true OY
    have d:=E1 F N l a (a+s) n b OY OY OY OY OY OY
    rw[d1,if_pos rfl,if_pos c2,d,gb]
   ·have d1:decide (((a+s:Nat):Int) < (n:Int))=false:=decide_eq_false OY
    rw[d1,if_neg OZ,if_neg c2]
theorem Ld {N n F:Nat} (b:n≤4294967296) (d:n≤F) (e:n+F < N):∀ (f fuel:Nat) (l:List a7) (s:Nat),0 < s→n - s < f→n - s < fuel→l.length=n→tj p lt l →
  bl N (n:Int) p fuel l (s:Int)=some (stL lt F f l n s)
 | 0,_,_,_,_,h,_,_,_=>by omega
 | f+1,0,_,_,_,_,h,_,_=>by omega
 | f+1,fuel+1,l,s,i,h1,o,j,g=>by
  rw[bl,stL]
  by_cases c:s < n
  ·have c1:decide ((s:Int) < (n:Int))=true:=decide_eq_true OY
   have k:IntKind.i64.wrap (2*(s:Int))=((0+2*s:Nat):Int):=by rw[wr OY OY];omega
   obtain⟨q,m⟩:=Cx (lt:=lt) F s (n+1) l 0 n
   rw[c1,if_pos rfl,if_pos c,k]
   refine (KN (lt:=lt) (a:=0) b i c d e _ (n+1) N l OY OY OY j g).trans ?_
   exact Ld b d e f fuel _ (2*s) OY OY OY OY (g.sub m)
  ·have c1:decide ((s:Int) < (n:Int))=false:=decide_eq_false OY
   rw[c1,if_neg OZ,if_neg c]
theorem MV {N:Nat} (l:List a7) (a:tj p lt l) (b:l.length≤4294967296) (c:l.length+l.length < N):cm N l p=some (wY lt l.length l):=by
 unfold cm eQ wY
 obtain⟨d,e⟩:=B1 (lt:=lt) 20 (l.length+1) l 0 l.length
 have h1:=HU (lt:=lt) (N:=N) (n:=l.length) OY (l.length+1) N l 0 OY OY OY (hz _) a b
 simp only[Int.natCast_zero,hA] at h1
 have f:bQ N (l.length:Int) p N l 0 20=_:=h1
 have g:=Ld (lt:=lt) (N:=N) (n:=l.length) (F:=l.length) b (hz _) c (l.length+1) N (yy lt 20 (l.length+1) l 0 l.length) 20 OY OY OY d (a.sub e)
 have h:bl N (l.length:Int) p N (yy lt 20 (l.length+1) l 0 l.length) 20=_:=g
 rw[f,h,gb]
theorem Gc {N:Nat} (b:1099000000000≤N) (ps:List az) (s:af) (ids:List Int) (e:df ps≤1048576) (hp:∀ p∈ps,p.Args.length≤1048576) (f:s.Items.length≤1048576) (g:∀ x∈s.Items,x.F.Fields.length≤1048576) (k:ids.length≤1048576) (he:ids.length=ps.length) :
  iS N ps s ids=some (aZ s.Items ps ids []):=by
 unfold iS
 have lp:∀ (n i:Nat) (l:List aq),i≤ids.length→ids.length - i < n→l.length+df (ps.drop i)≤1048576→ee N ps s ids n l i=some (aZ s.Items (ps.drop i) (ids.drop i) l):=by
  intro n
  induction n with
  | zero=>intro i _ _ h;omega
  | succ n j=>
   intro i l h1 m c
   by_cases d:i < ids.length
   ·have c1:decide ((i:Int) < (ids.length:Int))=true:=decide_eq_true OY
    have a:i < ps.length:=by omega
    rw[hn a] at c
    rw[ef] at c
    have o:=jG ps[i] (aH s.Items ids[i]).1 l
    rw[hn d,hn a,aZ]
    simp only[ee,c1,if_true,ag d,ag a,gb,wa b s _ f g,vW b ps[i] _ l (hp _ (hB a)) (show l.length≤2147483648 by omega),wr1 i OY]
    cases (aH s.Items ids[i]).2 with
    | false=>simp
    | true=>
     cases (aX ps[i] (aH s.Items ids[i]).1 l).2 with
     | false=>simp
     | true=>
      simp only[hC,gf,if_false,and_self,if_true]
      exact j (i+1) _ OY OY OY
   ·have c1:decide ((i:Int) < (ids.length:Int))=false:=decide_eq_false OY
    simp only[ee,c1,gf,if_false]
    rw[hy OY,hy OY];rfl
 have:=lp N 0 [] OY OY (by simpa using e)
 simpa using this
theorem Eh {N:Nat} (a:1099000000000≤N) (r:ah) (s:af) (ids:List Int) (b:r.Pats.length≤1048576) (f:df r.Pats≤1048576) (hp:∀ p∈r.Pats,p.Args.length≤1048576) (c:s.Items.length≤1048576) (d:∀ x∈s.Items,x.F.Fields.length≤1048576) (e:ids.length≤1048576) :
  mV N r s ids=some (aZ s.Items (pos r.Pats) ids []):=by
 unfold mV
 rw[tX a r false b,gb,BJ]
 by_cases he:ids.length=(pos r.Pats).length
 ·have c1:decide ((ids.length:Int)=((pos r.Pats).length:Int))=true:=decide_eq_true OY
  have h1:=qX r.Pats
  rw[c1]
  simp only[hC,gf,if_false,Gc a (pos r.Pats) s ids OY (fun p h=>hp p ((List.mem_filter.1 h).1)) c d e he,gb]
 ·have c1:decide ((ids.length:Int)=((pos r.Pats).length:Int))=false:=decide_eq_false OY
  rw[c1,wU (fun h=>he h.symm)];rfl
theorem DA {N:Nat} (c:1099000000000≤N) (a:bZ) (l:List aq) (d:l.length≤4294967296):nJ N a l=some (lI a l):=by
 unfold nJ lI
 rw[Hf c l a.S d]
 by_cases b:a.K=2
 ·simp[b]
 ·by_cases h1:a.K=1 <;> simp[h1,b,zv]
theorem or3 {N:Nat} (l:1099000000000≤N) (a b c:Int):gN N [a,b,c]=some (if a=0 then (if b=0 then c else b) else a):=by
 obtain⟨n,rfl⟩:∃ n,N=n+4:=⟨N - 4,OY⟩
 unfold gN
 have f:IntKind.i64.wrap ((0:Int)+1)=1:=by decide
 have g:IntKind.i64.wrap ((1:Int)+1)=2:=by decide
 have h:IntKind.i64.wrap ((2:Int)+1)=3:=by decide
 have i0:idx [a,b,c] 0=some a:=rfl
 have i:idx [a,b,c] 1=some b:=rfl
 have i2:idx [a,b,c] 2=some c:=rfl
 have j:(([a,b,c]:List Int).length:Int)=3:=rfl
 simp only[gD,f,g,h,i0,i,i2,j,gb]
 by_cases d:a=0
 ·by_cases e:b=0
  ·by_cases k:c=0 <;> simp[d,e,k]
  ·simp[d,e]
 ·simp[d]
theorem OU (N:Nat) (a b:ByteArray):fQ N a b=some (if slt a b=true then -1 else if (!slt a b && !seq a b)=true then 1 else 0):=by
 unfold fQ iz
 simp only[kZ,hC,gb,gf,if_false]
 cases slt a b with
 | true=>simp
 | false=>cases seq a b <;> simp
theorem Kc {N:Nat} (d:1099000000000≤N) (x y:bn):o9 N x y=some (Db x y):=by
 unfold o9 m4 Db
 simp only[Bw,OU,gb,or3 d,cmp]
 congr 1
 by_cases h1:x.K=y.K
 ·by_cases c:x.N=y.N
  ·simp only[h1,c,Int.lt_irrefl,if_false,if_true]
   cases slt x.S y.S with
   | true=>simp
   | false=>cases seq x.S y.S <;> simp
  ·simp only[h1,c,Int.lt_irrefl,if_false,if_true]
   by_cases a:x.N < y.N
   ·simp[a]
   ·have b:y.N < x.N:=by omega
    simp[a,b]
 ·simp only[h1,if_false]
  by_cases a:x.K < y.K
  ·simp[a]
  ·have b:y.K < x.K:=by omega
   simp[a,b]
theorem Kh {N:Nat} (a:1099000000000≤N) (c:cX) (l:List aq) (b:l.length≤4294967296):rS N c l=some (holds c l):=by
 unfold rS holds
 rw[DA a c.L l b,DA a c.R l b]
 simp only[gb,Kc a,hJ]
 cases (lI c.L l).2 with
 | false=>simp
 | true=>
  cases (lI c.R l).2 with
  | false=>simp
  | true=>
   by_cases h1:c.Op=1
   ·simp[h1]
   ·by_cases d:c.Op=2
    ·simp[d]
    ·by_cases e:c.Op=3 <;> simp[h1,d,e]
theorem AO {N:Nat} (a:1099000000000≤N) (cs:List cX) (l:List aq) (j:cs.length≤4194304) (d:l.length≤4294967296):mt N cs l=some (cs.all fun c=>holds c l):=by
 unfold mt
 refine lp0 a cs OY (fN N cs l) (fun t=>some (t.all fun c=>holds c l)) (fun n i x t h1 b k e f g h=>?_) (fun n i h1 b=>?_)
 ·simp only[fN,f,if_true,e,gb,Kh a x l d,g,h,hZ]
  cases holds x l <;> simp
 ·simp only[fN,b,gf,if_false];rfl
theorem Mw {N:Nat} (a:1099000000000≤N) (t:an) (h:t.Hits.length≤4294967296):qF N t=some (xp t):=by
 unfold qF xp
 refine lp0 a t.Hits h (ib N t) (fun l=>some (l.all fun n=>decide (n=0))) (fun n i x l g1 g2 g3 g4 g5 g6 g7=>?_) (fun n i g1 g2=>?_)
 ·simp only[ib,g5,if_true,g4,gb,g6,g7,hZ]
  by_cases c:x=0 <;> simp[c]
 ·simp only[ib,g2,gf,if_false];rfl
structure SzP (r:ah) (xs:List au):Prop where
 pl:r.Pats.length≤1048576
 sa:df r.Pats≤1048576
 pa:∀ p∈r.Pats,p.Args.length≤1048576
 cl:r.Conds.length≤1048576
 sl:xs.length≤1048576
 fl:∀ x∈xs,x.F.Fields.length≤1048576
theorem SzP.binds {r:ah} {xs:List au} (h:SzP r xs) (ids:List Int):(aZ xs (pos r.Pats) ids []).1.length≤1048576:=by
 have h1:=vp (xs:=xs) (pos r.Pats) ids []
 have a:=qX r.Pats
 have b:=h.sa
 simp at h1
 omega
theorem Dx {xs:List au} {i:Int} {r:ah} {t:an} {b:Bool} (h:((aZ xs (pos r.Pats) t.Ids []).2 && (xp t && r.Conds.all fun c=>holds c (aZ xs (pos r.Pats) t.Ids []).1))=b):tw xs i r t=if b=true then [⟨i,t.Ids,(aZ xs (pos r.Pats) t.Ids []).1⟩] else []:=by
 unfold tw;rw[h]
theorem Js {N:Nat} (e:1099000000000≤N) (s:af) (s1:List a7) (i:Nat) (K:List a7→Int→Option (List a7)) (r:ah) (L:aw) (d:SzP r s.Items) (p:L.Toks.length≤1048576) (q:∀ t∈L.Toks,t.Ids.length≤1048576∧t.Hits.length≤1048576) :
  fB N s s1 (i:Int) K r L N [] 0=(app s1 (vh (pi s.Items (i:Int) r L.Toks))).bind fun x=>K x (IntKind.i64.wrap ((i:Int)+1)):=by
 refine (lp' e L.Toks OY (fun n (u:List a7) j=>fB N s s1 (i:Int) K r L n u j) (fun t u=>(app s1 (vh (u++pi s.Items (i:Int) r t))).bind fun x=>K x (IntKind.i64.wrap ((i:Int)+1))) (fun u t=>u.length+t.length≤1048576∧∀ x∈u,x.Ids.length≤1048576) [] ⟨by simpa using p,OZ⟩ (fun n u j t l g1 g2 g3 g4 g5 g6 g o=>?_) (fun n u j g1 g2 g=>?_)).trans OZ
 ·obtain⟨k,i2⟩:=g
  simp only[gj] at k
  obtain⟨t1,t2⟩:=q t g2
  have w:=d.binds t.Ids
  have z:=d.cl
  have es:pi s.Items (i:Int) r (t :: l)=tw s.Items (i:Int) r t++pi s.Items (i:Int) r l:=rfl
  have skip:((aZ s.Items (pos r.Pats) t.Ids []).2 && (xp t && r.Conds.all fun c=>holds c (aZ s.Items (pos r.Pats) t.Ids []).1))=false→fB N s s1 (i:Int) K r L n u ((j+1:Nat):Int)=(app s1 (vh (u++pi s.Items (i:Int) r (t :: l)))).bind fun x=>K x (IntKind.i64.wrap ((i:Int)+1)):=fun h=>by
   rw[o u ⟨OY,i2⟩,es,Dx h];simp
  simp only[fB,g5,if_true,g4,gb,Eh e r s t.Ids d.pl d.sa d.pa d.sl d.fl t1]
  cases f:(aZ s.Items (pos r.Pats) t.Ids []).2 with
  | false=>
   simp only[gf,if_false,gb,g6]
   exact skip (by rw[f];rfl)
  | true=>
   simp only[if_true,Mw e t OY,gb]
   cases m:xp t with
   | false=>
    simp only[gf,if_false,gb,g6]
    exact skip (by rw[f,m];rfl)
   | true=>
    simp only[if_true,AO e r.Conds _ (show r.Conds.length≤4194304 by omega) (show (aZ s.Items (pos r.Pats) t.Ids []).1.length≤4294967296 by omega),gb]
    cases hH:(r.Conds.all fun c=>holds c (aZ s.Items (pos r.Pats) t.Ids []).1) with
    | false=>
     simp only[gf,if_false,g6]
     exact skip (by rw[f,m,hH];rfl)
    | true=>
     simp only[if_true,cH,gR (show t.Ids.length≤4294967296 by omega),gb,cg (show u.length+[(⟨(i:Int),t.Ids,(aZ s.Items (pos r.Pats) t.Ids []).1⟩:a7)].length≤4294967296 by simp;omega),g6]
     rw[o _ ⟨by simp;omega,fun x a=>by
      rcases List.mem_append.1 a with a | a
      ·exact i2 x a
      ·simp only[hY] at a;rw[a];exact t1⟩,es,Dx (b:=true) (by rw[f,m,hH];rfl)]
     simp
 ·obtain⟨k,i2⟩:=g
  simp only[gx,Nat.add_zero] at k
  have v:tj (eu N) mK u:=fun x a y A=>Hw OY x y (i2 x a)
  simp only[fB,g2,gf,if_false,MV (N:=N) u v OY OY,gb]
  simp[pi,vh]
theorem Ij:vh []=[]:=by
 have:=(C8 []).2.length_eq
 exact qo.1 (by simpa using this)
theorem HE (l:List a7):(vh l).length=l.length:=(C8 l).2.length_eq
theorem GX {w:aV} (h:w.Levels.length=0):qv w=[]:=by
 unfold qv
 rw[qo.1 h];rfl
def GZ:List aV→Nat
 | []=>0
 | w :: ws=>(qv w).length+GZ ws
def jj (i:Nat) (m:a7):a7:=⟨(i:Int),m.Ids,m.Binds⟩
def em (xs:List au):Nat→List ah→List a7
 | _,[]=>[]
 | i,r :: t=>(iw r xs).map (jj i)++em xs (i+1) t
theorem ye {r:ah} {s:af} (a:tW r s):(iw r s.Items).length≤1073741824:=by
 have h1:=rD (u7 r s.Items) s.Items (r.Pats.take (ac r.Pats)) [] []
 have b:=dv r.Pats
 rw[k0,Nat.min_eq_left b] at h1
 exact j4 h1 a.nm
theorem xo {xs:List au} {M:Nat}:∀ (t:List ah) (i:Nat),(∀ r∈t,(iw r xs).length≤M)→(em xs i t).length≤t.length*M
 | [],i,_=>by simp[em]
 | r :: t,i,h=>by
  have h1:=xo t (i+1) fun y a=>h y (by simp[a])
  have b:=h r OZ
  unfold em
  rw[gk,List.length_map,gj,hE];omega
theorem H1 (ps:List az) (xs:List au) (l:List aq):((gr xs (neg ps) l).all fun n=>decide (n=0)) = !iN ps xs l:=by
 unfold gr neg iN
 induction ps with
 | nil=>rfl
 | cons p ps a=>
  rw[List.filter_cons,List.any_cons]
  cases hp:p.Not with
  | false=>simp only[gf,if_false,Bool.false_and,Bool.false_or];exact a
  | true=>
   simp only[if_true,List.map_cons,hZ,hI,Bool.not_or,a]
   congr 1
   have h:=Dg p l xs
   rw[← h]
   by_cases c:tx p l xs=0
   ·simp[c]
   ·rw[decide_eq_false OY,decide_eq_true OY];rfl
theorem xD {xs:List au} {ps:List az} {r:List Int} (h:r.length=ps.length):okB xs ps r=aZ xs ps r []:=by
 unfold okB
 rw[List.take_of_length_le OY]
theorem JF {a b:a7} (h:mK a b=true):a≠b:=fun e=>by
 subst e
 have:=xd.irr a
 rw[h] at this
 cases this
theorem Ia {xs:List au} {i:Nat} {r:ah} {w:aV} (hu:sE xs) (hp:gS r.Pats=true) (K:w.Levels.length=(pos r.Pats).length) (hw:CL xs r w):vh (pi xs (i:Int) r (qv w))=(iw r xs).map (jj i):=by
 have v:pos r.Pats=r.Pats.take (ac r.Pats):=tT hp
 have M:1≤(pos r.Pats).length:=by
  have h1:=hp
  unfold gS at h1
  simp only[gI,decide_eq_true_eq] at h1
  have d:(pos r.Pats).length=ac r.Pats:=qh r.Pats
  omega
 have C:w.Levels.length - 1 < w.Levels.length:=by omega
 obtain⟨L,y⟩:∃ L,w.Levels[w.Levels.length - 1]?=some L:=⟨_,gm C⟩
 have D:qv w=L.Toks:=by unfold qv;rw[y]
 obtain⟨l,E⟩:=hw _ L y
 rw[show w.Levels.length - 1+1=(pos r.Pats).length by omega] at l
 rw[D]
 have F:=Ad (r:=r) hu
 have z:((iw r xs).map (jj i)).Pairwise fun a b=>mK a b=true:=by
  rw[List.pairwise_map]
  exact F.imp_of_mem fun {a b} g f n=>by
   have h1:=(sR hu g).1
   have d:=(sR hu f).1
   unfold mK jj at *
   rw[if_pos OY] at n
   simpa using n
 have A:∀ t∈L.Toks,t.Ids.length=(pos r.Pats).length∧(aZ xs (pos r.Pats) t.Ids []).2=true∧xp t = !iN r.Pats xs (aZ xs (pos r.Pats) t.Ids []).1:=fun t h=>by
  obtain⟨h1,d⟩:=Has.len l t h
  have e:=xD (xs:=xs) h1
  unfold okR at d
  rw[e] at d
  refine⟨h1,d,?_⟩
  have k:=E t h
  unfold lF at k
  rw[if_pos OY,e] at k
  unfold xp
  rw[k]
  exact H1 _ _ _
 symm
 refine Ju ?_ ?_
 ·exact z.imp_of_mem fun {a b} g f n=>by
   exact xd.asymm a b n
 ·refine (List.perm_ext_iff_of_nodup (z.imp fun h=>JF h) ?_).2 fun x=>?_
  ·unfold pi List.Nodup
   rw[List.pairwise_flatMap]
   refine⟨fun t _=>?_,?_⟩
   ·unfold tw
    split
    ·exact List.pairwise_singleton _ _
    ·exact List.Pairwise.nil
   ·have q:=l.nd
    unfold gH List.Nodup at q
    rw[List.pairwise_map] at q
    exact q.imp fun {t u} G a g b f e=>G (by
     unfold tw at g f
     split at g
     ·split at f
      ·simp only[hY] at g f
       rw[g,f] at e
       exact (a7.mk.inj e).2.1
      ·cases f
     ·cases g)
  ·unfold pi
   rw[hN,List.mem_flatMap]
   constructor
   ·rintro⟨m,hm,rfl⟩
    obtain⟨h1,d,k⟩:=sR hu hm
    rw[← v] at d
    have hlen:=zb _ _ _ _ d
    have H:okR xs (pos r.Pats) m.Ids=true:=by unfold okR;rw[xD hlen,d]
    obtain⟨t,o,B⟩:=hN.1 ((l.iff m.Ids).2 ⟨hlen,H⟩)
    refine⟨t,o,?_⟩
    obtain⟨I,s,p⟩:=A t o
    rw[B,d] at p
    unfold tw
    rw[B,d,p]
    simp only[hI]
    rw[if_pos k]
    simp[jj]
   ·rintro⟨t,o,j⟩
    obtain⟨I,s,p⟩:=A t o
    unfold tw at j
    rw[s,p,hI] at j
    split at j
    ·rename_i c
     simp only[hY] at j
     subst j
     have f:aZ xs (r.Pats.take (ac r.Pats)) t.Ids []=((aZ xs (pos r.Pats) t.Ids []).1,true):=by rw[← v,← s]
     exact⟨_,GI f c,rfl⟩
    ·cases j
theorem FH {xs:List au} (hu:sE xs):∀ (a:List ah) (ws:List aV) (i:Nat),a.length=ws.length→(∀ r∈a,iy r=true)→(∀ (k:Nat) (r:ah) (w:aV),a[k]?=some r→ws[k]?=some w→w.Levels.length=(pos r.Pats).length∧CL xs r w)→Eu xs i a ws=em xs i a
 | [],[],i,_,_,_=>rfl
 | [],w :: ws,i,h,_,_=>by simp at h
 | r :: a,[],i,h,_,_=>by simp at h
 | r :: a,w :: ws,i,h,d,hw=>by
  have e:=FH hu a ws (i+1) (by simpa using h) (fun q f=>d q (by simp[f])) fun k q v h1 b=>hw (k+1) q v (by simpa using h1) (by simpa using b)
  obtain⟨h1,b⟩:=hw 0 r w rfl rfl
  have c:=d r OZ
  have hp:gS r.Pats=true:=by
   unfold iy at c
   simp only[gI] at c
   exact c.2.2.1
  rw[Eu,em,e,Ia hu hp h1 b]
theorem tD {r:ah} (h:iy r=true):gS r.Pats=true:=by
 unfold iy at h
 simp only[gI] at h
 exact h.2.2.1
theorem Ev {r:ah} (h:iy r=true):pos r.Pats=r.Pats.take (ac r.Pats):=tT (tD h)
theorem za {B:Nat}:∀ {l:List az},(∀ p∈l,p.Args.length≤B)→df l≤l.length*B
 | [],_=>by simp[df]
 | p :: t,h=>by
  have h1:=za (l:=t) fun q a=>h q (by simp[a])
  have b:=h p OZ
  rw[ef,gj,hE];omega
theorem uA {c:Nat}:∀ (l:List az) (i:Nat),eH c i l=true→∀ p∈l,mI p=true
 | [],_,_,p,hp=>by cases hp
 | x :: t,i,h,p,hp=>by
  unfold eH at h
  simp only[gI] at h
  rcases List.mem_cons.1 hp with rfl | hp
  ·exact h.1
  ·exact uA t _ h.2.2 p hp
theorem BQ {r:ah} {s:af} (a:iy r=true) (b:iD s=true):tW r s:=by
 have hp:=tD a
 unfold iy at a
 simp only[gI,decide_eq_true_eq] at a
 have d:=a.2.2.2.1.2
 unfold gS at hp
 simp only[gI,decide_eq_true_eq] at hp
 obtain⟨⟨_,e⟩,⟨_,c⟩,p3⟩:=hp
 have pa:∀ p∈r.Pats,p.Args.length≤5:=fun p hp=>by
  have:=uA _ _ p3 p hp
  unfold mI at this
  simp only[gI,decide_eq_true_eq] at this
  omega
 have sa:=za pa
 unfold iD at b
 simp only[gI,decide_eq_true_eq] at b
 have xl:=b.2.1
 refine⟨OY,fun p hp=>by have:=pa p hp;omega,OY,OY,OY,?_⟩
 exact j4 (Nat.pow_le_pow_left xl _) (j4 (Pa OY c) (by decide))
theorem wO {r:ah} {s:af} (b:iy r=true) (a:iD s=true):(iw r s.Items).length≤64000:=by
 have hp:=tD b
 unfold gS at hp
 simp only[gI,decide_eq_true_eq] at hp
 obtain⟨_,⟨_,c⟩,_⟩:=hp
 unfold iD at a
 simp only[gI,decide_eq_true_eq] at a
 have xl:=a.2.1
 have h1:=rD (u7 r s.Items) s.Items (r.Pats.take (ac r.Pats)) [] []
 rw[k0,Nat.min_eq_left (dv r.Pats)] at h1
 exact j4 h1 (j4 (Nat.pow_le_pow_left xl _) (j4 (Pa OY c) (by decide)))
def nQ (d:bq) (s:af):List a7:=if (ji d && iD s)=true then em s.Items 0 d.Rules else []
theorem uj {d:bq} (h:ji d=true):d.Rules.length≤12:=by
 unfold ji at h
 simp only[gI,decide_eq_true_eq] at h
 exact h.2.1.2
theorem JV {N:Nat} (o:1099000000000≤N) (d:bq) (m:aY) (s:af) (p:∀ r∈d.Rules,SzP r s.Items) (C:d.Rules.length≤1048576) (hm:m.Rules.length=d.Rules.length) (hw:∀ w∈m.Rules,w.Levels.length≤1048576∧(qv w).length≤1048576∧∀ t∈qv w,t.Ids.length≤1048576∧t.Hits.length≤1048576) :
  ∀ (n i:Nat) (u:List a7),d.Rules.length - i < n→i≤d.Rules.length→u.length+GZ (m.Rules.drop i)≤4294967296→iU N d m s n u (i:Int)=some (u++Eu s.Items i (d.Rules.drop i) (m.Rules.drop i)):=by
 intro n
 induction n with
 | zero=>intro i u h;omega
 | succ n b=>
  intro i u D E hu
  rw[iU]
  by_cases c:i < d.Rules.length
  ·have c1:decide ((i:Int) < (d.Rules.length:Int))=true:=decide_eq_true OY
   have c2:i < m.Rules.length:=by omega
   have d1:decide ((i:Int) < (m.Rules.length:Int))=true:=decide_eq_true OY
   have d2:decide ((m.Rules.length:Int)≤(i:Int))=false:=decide_eq_false OY
   rw[hn c,hn c2,Eu]
   rw[hn c2,GZ] at hu
   simp only[c1,d1,d2,if_true,gb,ag c,ag c2,gf,if_false]
   obtain⟨F,f,g⟩:=hw _ (hB c2)
   have q:=p _ (hB c)
   by_cases v:m.Rules[i].Levels.length=0
   ·have a:decide ((m.Rules[i].Levels.length:Int)=0)=true:=decide_eq_true OY
    have j:=GX v
    rw[j] at hu
    simp only[a,if_true,wr1 i OY,j]
    have:=b (i+1) u OY OY (by simpa using hu)
    have e:vh (pi s.Items (i:Int) d.Rules[i] [])=[]:=Ij
    rw[e,ho]
    exact this
   ·have a:decide ((m.Rules[i].Levels.length:Int)=0)=false:=decide_eq_false OY
    have l:m.Rules[i].Levels.length - 1 < m.Rules[i].Levels.length:=by omega
    have y:qv m.Rules[i]=m.Rules[i].Levels[m.Rules[i].Levels.length - 1].Toks:=by unfold qv;rw[gm l]
    simp only[a,gf,if_false,wS1 (x:=m.Rules[i].Levels.length) OY OY,ag l,gb]
    rw[y] at hu g f ⊢
    have G:=CF (xs:=s.Items) (i:=(i:Int)) (r:=d.Rules[i]) m.Rules[i].Levels[m.Rules[i].Levels.length - 1].Toks
    have H:=HE (pi s.Items (i:Int) d.Rules[i] m.Rules[i].Levels[m.Rules[i].Levels.length - 1].Toks)
    have z:app u (vh (pi s.Items (i:Int) d.Rules[i] m.Rules[i].Levels[m.Rules[i].Levels.length - 1].Toks))=some (u++vh (pi s.Items (i:Int) d.Rules[i] m.Rules[i].Levels[m.Rules[i].Levels.length - 1].Toks)):=cg OY
    have:=b (i+1) (u++vh (pi s.Items (i:Int) d.Rules[i] m.Rules[i].Levels[m.Rules[i].Levels.length - 1].Toks)) OY OY (by rw[gk];omega)
    rw[Js o s u i _ d.Rules[i] _ q f g,z,gb,wr1 i OY,← gi]
    exact this
  ·have c1:decide ((i:Int) < (d.Rules.length:Int))=false:=decide_eq_false OY
   have A:d.Rules.drop i=[]:=hy OY
   have B:∀ (k:Nat) (ws:List aV),Eu s.Items k [] ws=[]:=fun k ws=>by cases ws <;> rfl
   rw[A,B]
   simp only[c1,gf,if_false,gb,j5]
theorem Nq {d:bq} {s:af} (b:sk d) (a:pe s):∀ r∈d.Rules,SzP r s.Items:=fun r c=>by
 obtain⟨_,⟨g0,g1⟩,⟨g3,_⟩,_,g2,_⟩:=b.2.2 r c
 exact⟨g0,g2,fun p hp=>(g1 p hp).2.1,g3,a.1,fun x e=>(a.2 x e).2.1⟩
theorem Jc {N:Nat} (f:1099000000000≤N) {d:bq} {m:aY} {s:af} (e:ji d=true) (g:sk d) (i:pe s) {j:Nat} (k:j≤40) (c:pu d (cS d) j m):pB N d m s=some (Eu s.Items 0 d.Rules m.Rules):=by
 have h1:pu d ⟨[],[]⟩ j ⟨[],m.Rules⟩:=⟨rfl,c.lr,OZ,c.rows⟩
 have l:=(EH e OZ h1).rows
 have u:=uj e
 have hw:∀ w∈m.Rules,w.Levels.length≤1048576∧(qv w).length≤400000∧∀ t∈qv w,t.Ids.length≤1048576∧t.Hits.length≤1048576:=fun w hw=>by
  obtain⟨a,b⟩:=l w hw
  refine⟨OY,?_⟩
  unfold qv
  split
  ·rename_i L n
   obtain⟨c1,c2⟩:=b _ L n
   have hp:100 ^ (w.Levels.length - 1)≤100 ^ 2:=Pa OY OY
   have:j*100 ^ (w.Levels.length - 1)≤40*100 ^ 2:=Nat.mul_le_mul k hp
   refine⟨OY,fun t o=>?_⟩
   have:=c2 t o
   exact⟨OY,OY⟩
  ·simp
 have p:∀ (ws:List aV),(∀ w∈ws,(qv w).length≤400000)→GZ ws≤ws.length*400000:=by
  intro ws
  induction ws with
  | nil=>intro _;simp[GZ]
  | cons w ws q=>
   intro h
   have a:=h w OZ
   have b:=q fun v r=>h v (by simp[r])
   rw[GZ,gj,hE];omega
 have x:=p m.Rules fun w h=>(hw w h).2.1
 have y:=c.lr
 have:=JV f d m s (Nq g i) OY c.lr (fun w h=>⟨(hw w h).1,by have:=(hw w h).2.1;omega,(hw w h).2.2⟩) N 0 [] OY OY (by simp;omega)
 unfold pB
 simpa using this
theorem LY {N:Nat} (f:1099000000000≤N) {d:bq} {m:aY} {s:af} (b:ji d=true) (g:sk d) (h:pe s) (hu:sE s.Items) {j:Nat} (i:j≤40) (a:pu d (cS d) j m) (l:wt d (cS d) s.Items m):pB N d m s=some (em s.Items 0 d.Rules):=by
 rw[Jc f b g h i a,FH hu d.Rules m.Rules 0 a.lr.symm (m9 b) fun k r w c e=>⟨(a.rows k r w c e).1,l.rows k r w c e⟩]
theorem Dv {N:Nat} (e:1099000000000≤N) (d:bq) (s:af) (c:ji d=true) (f:sk d) (l:s.Items.length≤40) (g:∀ x∈s.Items,x.F.Fields.length≤1048576):∀ (rest done:List au) (k:Nat) (m:aY),rest.length < k→s.Items=done++rest→pu d (cS d) done.length m →
  iL N d s (cS d) k m.Alphas m.Rules (done.length:Int)=some (wc d (cS d) s.Next done rest m)
 | [],done,k,m,hk,a,h=>by
  obtain⟨k,rfl⟩:∃ j,k=j+1:=⟨k - 1,by simp at hk;omega⟩
  have c1:decide ((done.length:Int) < (s.Items.length:Int))=false:=decide_eq_false (by rw[a];simp)
  simp only[iL,c1,gf,if_false,wc]
 | x :: t,done,k,m,hk,a,h=>by
  obtain⟨k,rfl⟩:∃ j,k=j+1:=⟨k - 1,OY⟩
  simp only[gj] at hk
  have q:s.Items.length=done.length+(t.length+1):=by rw[a];simp
  have c1:decide ((done.length:Int) < (s.Items.length:Int))=true:=decide_eq_true OY
  have n:idx s.Items (done.length:Int)=some x:=by rw[a];exact ej _ _ _
  have o:ssl s.Items 0 ((done.length+1:Nat):Int)=some (done++[x]):=by
   rw[Dw OY,a]
   congr 1
   rw[show done++x :: t=(done++[x])++t by simp,List.take_left' OZ]
  have ok:=zC (s:=⟨done++[x],s.Next⟩) (id:=x.Id) c f (by simp;omega) (fun y b=>g y (by rw[a];simp at b ⊢;rcases b with b | b <;> simp[b])) OY h
  have p:(cS d).Chains.length=d.Rules.length:=(ud (nF c)).2.1.len
  have h1:=vN (s:=⟨done++[x],s.Next⟩) (id:=x.Id) OY (by simp;omega) p h
  have i:=Dv e d s c f l g t (done++[x]) k (A8 d (cS d) m ⟨done++[x],s.Next⟩ x.Id) OY (by rw[a];simp) (by simpa using h1)
  simp only[gk,gj,gx,hA] at i
  simp only[iL,c1,if_true,n,o,gb,wr1 done.length OY,N2 e d (cS d) _ _ x.Id ok.ok]
  exact i
theorem Fg {d:bq} {m:aY} {j:Nat} (b:ji d=true) (e:j≤40) (a:pu d (cS d) j m):JT m:=by
 obtain⟨⟨f,z2⟩,z3,z4⟩:=tp (nF b)
 have h1:pu d ⟨[],[]⟩ j ⟨[],m.Rules⟩:=⟨rfl,a.lr,OZ,a.rows⟩
 have c:=(EH b OZ h1).sz e
 exact⟨⟨by have:=a.la;omega,fun i hm=>by have:=a.al i hm;omega⟩,c.2.1,c.2.2⟩
theorem JH {N:Nat} (a:1099000000000≤N) {d:bq} {m:aY} {s:af} (l:sk d) (n:pe s) (b:ji d=true) (e:iD s=true) {j:Nat} (q:j≤40) (o:pu d (cS d) j m) (r:wt d (cS d) s.Items m):mX N d m s=some true:=by
 have f:s.Items.length≤40:=by
  unfold iD at e
  simp only[gI,decide_eq_true_eq] at e
  exact e.2.1
 have g:=nF b
 have h:=(ud g).2.1
 obtain⟨⟨t,z2⟩,z3,z4⟩:=tp g
 have i:=yL h
 have k:=Dv a d s b l f (fun x p=>(n.2 x p).2.1) s.Items [] N (lH (cS d)) OY rfl i
 simp only[gx,Int.natCast_zero] at k
 have hinv:=HM (nx:=s.Next) h.len s.Items [] (lH (cS d)) (by simpa using f) i
 have hH:=MW (nx:=s.Next) h s.Items [] (lH (cS d)) (by simpa using f) (by simpa using Aj e) i KU
 simp only[ho,gx,hA] at hinv hH
 have u:=Hi a (cS d) t z3 (fun c v=>(z4 c v).1)
 generalize p:wc d (cS d) s.Next [] s.Items (lH (cS d))=x at k hinv hH
 have w:iL N d s (cS d) N (lH (cS d)).Alphas (lH (cS d)).Rules 0=some x:=k
 unfold mX
 simp only[I7 a d l,b,gb,if_true,EB a s n,e]
 unfold ut
 simp only[FN a d g,gb,u,w,Gi a m x (Fg b q o) (Fg b f hinv),K9 o hinv r hH]
theorem Jr {N:Nat} (d:1099000000000≤N) (x y:List aq) (f:x.length≤4294967296):dP N x y=some (decide (x=y)):=by
 unfold dP
 by_cases c:x.length=y.length
 ·rw[if_neg (by simp;omega)]
  refine (rq (ce N x y) x y c OY (fun a b=>some (decide (a=b))) (fun a _ b _=>rfl) (fun k i=>by simp only[ce,C4,gb]) N 0 OY OY).trans ?_
  simp
 ·rw[if_pos (by simp;omega)]
  have : ¬ x=y:=fun e=>c (by rw[e])
  simp[this]
theorem Gk (x y:a7):decide (x=y)=(uw x y && decide (x.Binds=y.Binds)):=by
 obtain⟨a,b,c⟩:=x
 obtain⟨d,e,f⟩:=y
 simp only[uw,a7.mk.injEq,← Bool.decide_and,and_assoc]
def La (l:List a7):Prop:=l.length≤1048576∧∀ m∈l,m.Ids.length≤1048576∧m.Binds.length≤1048576
theorem Gq {N:Nat} (f:1099000000000≤N) (x y:List a7) (d:La x):mw N x y=some (decide (x=y)):=by
 have h:=d.1
 have key:be N x y (gg N)=some (decide (x=y)):=by
  unfold be
  by_cases c:x.length=y.length
  ·rw[if_neg (by simp;omega)]
   refine (rq (aQ N x y (gg N)) x y c OY (gg N) (fun a g b _=>?_) (fun k i=>rfl) N 0 OY OY).trans ?_
   ·obtain⟨h1,j⟩:=d.2 a g
    unfold gg
    rw[LZ OY a b h1,gb,Gk]
    cases uw a b with
    | false=>rfl
    | true=>simp only[if_true,Jr f a.Binds b.Binds OY,gb,hI]
   ·simp
  ·rw[if_pos (by simp;omega)]
   have : ¬ x=y:=fun e=>c (by rw[e])
   simp[this]
 unfold mw
 rw[key,gb]
theorem NR {P:a7→Prop} {xs:List au}:∀ (t:List ah) (i:Nat),(∀ r∈t,∀ m∈iw r xs,∀ j:Nat,P (jj j m))→∀ m∈em xs i t,P m
 | [],i,_,m,hm=>by simp[em] at hm
 | r :: t,i,h,m,hm=>by
  unfold em at hm
  rcases List.mem_append.1 hm with hm | hm
  ·obtain⟨x,a,rfl⟩:=hN.1 hm
   exact h r OZ x a i
  ·exact NR t (i+1) (fun y b=>h y (by simp[b])) m hm
theorem LC {d:bq} {s:af} (a:ji d=true) (b:iD s=true):La (em s.Items 0 d.Rules):=by
 have g:=uj a
 have c:=m9 a
 have i:=xo (xs:=s.Items) (M:=64000) d.Rules 0 fun r h=>wO (c r h) b
 have hm:=NR (xs:=s.Items) (P:=fun m=>m.Ids.length≤1048576∧m.Binds.length≤1048576) d.Rules 0 fun r h m hm j=>by
  have e:=BQ (c r h) b
  have f:=Ci (Jt r s.Items) s.Items (r.Pats.take (ac r.Pats)) [] [] m hm
  have k:=pA (ac r.Pats) r.Pats
  have l:=e.sa
  have n:=e.pl
  rw[k0] at f
  simp only[gx] at f
  show m.Ids.length≤1048576∧m.Binds.length≤1048576
  omega
 exact⟨OY,hm⟩
theorem GU {N:Nat} (a:1099000000000≤N) (r:ah) (s:af) (l:List aq) (d:r.Pats.length≤1048576) (hp:∀ p∈r.Pats,p.Args.length≤1048576) (b:s.Items.length≤1048576) (c:l.length≤2147483648):oh N r s l=some (iN r.Pats s.Items l):=by
 unfold oh
 refine lp0 a r.Pats OY (gp N r s l) (fun t=>some (iN t s.Items l)) (fun n i x t g1 g2 g3 g4 g5 g6 g7=>?_) (fun n i g1 g2=>?_)
 ·simp only[gp,g5,if_true,g4,gb,I0 a x s l (hp x g2) b c,Dg,g6,g7,mL]
  unfold iN
  rw[List.any_cons]
  cases (x.Not && s.Items.any fun y=>(aX x y.F l).2) <;> simp
 ·simp only[gp,g2,gf,if_false];rfl
theorem Lo (r:ah) (s:af) (a:tW r s) (z:s.Items.length ^ (pos r.Pats).length≤1073741824):∀ (k N:Nat) (out:List a7) (ids:List Int) (l:List aq),1099000000001+k≤N→ids.length+k=(pos r.Pats).length→out.length+s.Items.length ^ k≤4294967296 →
  l.length+df ((pos r.Pats).drop ids.length)≤1048576→fR N out r s ids l=some (out++jS (wd r s.Items) s.Items ((pos r.Pats).drop ids.length) ids l):=by
 have A:=a.pl
 have B:(pos r.Pats).length≤r.Pats.length:=List.length_filter_le _ _
 intro k
 induction k with
 | zero=>
  intro N out ids l j hk b d
  obtain⟨N,rfl⟩:∃ M,N=M+1:=⟨N - 1,OY⟩
  have c1:decide ((ids.length:Int)=((pos r.Pats).length:Int))=true:=decide_eq_true OY
  have m:(pos r.Pats).drop ids.length=[]:=hy OY
  rw[m]
  simp only[fR,tX (show 1099000000000≤N by omega) r false a.pl,BJ,gb,c1,if_true,GU (show 1099000000000≤N by omega) r s l a.pl a.pa a.xl OY,AO (show 1099000000000≤N by omega) r.Conds l (by have:=a.cl;omega) OY,mL,jS,wd,cH,bz]
  cases (!iN r.Pats s.Items l && r.Conds.all fun c=>holds c l) with
  | true=>
   simp only[if_true,gR (show ids.length≤4294967296 by omega),gR (show l.length≤4294967296 by omega),gb,cg (show out.length+[(⟨0,ids,l⟩:a7)].length≤4294967296 by simp at b ⊢;omega)]
  | false=>simp
 | succ k o=>
  intro N out ids l j hk b d
  obtain⟨N,rfl⟩:∃ M,N=M+1:=⟨N - 1,OY⟩
  have c1:decide ((ids.length:Int)=((pos r.Pats).length:Int))=false:=decide_eq_false OY
  have e:ids.length < (pos r.Pats).length:=by omega
  have p:=hn e
  rw[p] at d ⊢
  rw[ef] at d
  have q:=a.pa _ (List.mem_filter.1 (hB e)).1
  simp only[fR,tX (show 1099000000000≤N by omega) r false a.pl,BJ,gb,c1,gf,if_false,jS]
  have v:s.Items.length ^ (k+1)=s.Items.length*s.Items.length ^ k:=by rw[Nat.pow_succ,Nat.mul_comm]
  rw[v] at b
  have C:=a.xl
  refine lp' (show 1099000000000≤N by omega) s.Items OY (fun n (u:List a7) i=>eK N r s ids l (fR N) (pos r.Pats) n u i) (fun t u=>some (u++t.flatMap fun x=>if (aX (pos r.Pats)[ids.length] x.F l).2=true then jS (wd r s.Items) s.Items ((pos r.Pats).drop (ids.length+1)) (ids++[x.Id]) (aX (pos r.Pats)[ids.length] x.F l).1 else []))
   (fun u t=>u.length+t.length*s.Items.length ^ k≤4294967296) out b (fun n u i x t g1 g2 g3 g4 g5 g6 f g=>?_) (fun n u i g1 g2 f=>?_)
  ·rw[gj,hE] at f
   have D:=jG (pos r.Pats)[ids.length] x.F l
   simp only[eK,g5,if_true,ag e,g4,gb,vW (show 1099000000000≤N by omega) _ x.F l q OY,List.flatMap_cons,g6]
   cases hm:(aX (pos r.Pats)[ids.length] x.F l).2 with
   | true=>
    have w:=rD (u7 r s.Items) s.Items ((pos r.Pats).drop (ids.length+1)) (ids++[x.Id]) (aX (pos r.Pats)[ids.length] x.F l).1
    have y:((pos r.Pats).drop (ids.length+1)).length=k:=by rw[List.length_drop];omega
    rw[y] at w
    have h:(ids++[x.Id]).length=ids.length+1:=by simp
    have:=o N u (ids++[x.Id]) (aX (pos r.Pats)[ids.length] x.F l).1 OY OY OY (by rw[h];omega)
    rw[h] at this
    simp only[if_true,cH,gR (show ids.length≤4294967296 by omega),cg (show ids.length+[x.Id].length≤4294967296 by simp;omega),gb,this,mW,g6]
    rw[g _ (by rw[gk];omega),gi]
   | false=>
    simp only[gf,if_false,ho]
    exact g u OY
  ·simp only[eK,g2,gf,if_false];simp
theorem Oh {N:Nat} (d:1099400000000≤N) (r:ah) (s:af) (a:tW r s) (hp:pos r.Pats=r.Pats.take (ac r.Pats)):lJ N r s=some (iw r s.Items):=by
 unfold lJ iw
 have e:=dv r.Pats
 have h1:=pA (ac r.Pats) r.Pats
 have f:=a.pl
 have g:=a.sa
 have c:=a.nm
 have b:(pos r.Pats).length=ac r.Pats:=by rw[hp,k0];omega
 have:=Lo r s a (by rw[b];exact c) (ac r.Pats) N [] [] [] OY (by simp[b]) (by simp;omega) (by rw[hp];simp;omega)
 rw[this,hp];simp
theorem NJ {N:Nat} (e:1099400000000≤N) (d:bq) (s:af) (v:d.Rules.length≤1048576) (f:∀ r∈d.Rules,tW r s∧pos r.Pats=r.Pats.take (ac r.Pats)) (M:Nat) (g:∀ r∈d.Rules,(iw r s.Items).length≤M) (j:d.Rules.length*M≤4294967296):rF N d s=some (em s.Items 0 d.Rules):=by
 unfold rF
 have lp:∀ (n i:Nat) (out:List a7),i≤d.Rules.length→d.Rules.length - i < n→out.length+(d.Rules.length - i)*M≤4294967296→gO N d s n out i=some (out++em s.Items i (d.Rules.drop i)):=by
  intro n
  induction n with
  | zero=>intro i _ _ h;omega
  | succ n l=>
   intro i out w y o
   by_cases a:i < d.Rules.length
   ·have c1:decide ((i:Int) < (d.Rules.length:Int))=true:=decide_eq_true OY
    obtain⟨c,hp⟩:=f _ (hB a)
    have hm:=g _ (hB a)
    have z:=ye c
    rw[hn a,em]
    simp only[gO,c1,if_true,ag a,gb,Oh e _ s c hp]
    have p:(d.Rules.length - i)*M=M+(d.Rules.length - (i+1))*M:=by
     rw[show d.Rules.length - i=(d.Rules.length - (i+1))+1 by omega,hE];omega
    rw[p] at o
    refine (lp' (show 1099000000000≤N by omega) (iw d.Rules[i] s.Items) OY (fun m (u:List a7) k=>jJ N (i:Int) (gO N d s n) (iw d.Rules[i] s.Items) m u k) (fun t u=>some (u++t.map (jj i)++em s.Items (i+1) (d.Rules.drop (i+1)))) (fun u t=>u.length+t.length+(d.Rules.length - (i+1))*M≤4294967296) out OY (fun m u k x t g1 g2 g3 g4 g5 g6 b q=>?_) (fun m u k g1 g2 b=>?_)).trans OZ
    ·simp only[gj] at b
     simp only[jJ,g5,if_true,g4,gb]
     rw[show (⟨(i:Int),x.Ids,x.Binds⟩:a7)=jj i x from rfl,cg (show u.length+[jj i x].length≤4294967296 by simp;omega),gb,g6]
     rw[q _ (by simp;omega)];simp
    ·simp only[jJ,g2,gf,if_false,wr1 i OY]
     rw[l (i+1) u OY OY (by simp at b;omega)];simp
   ·have c1:decide ((i:Int) < (d.Rules.length:Int))=false:=decide_eq_false OY
    rw[hy OY]
    simp only[gO,c1,gf,if_false,em,j5]
 have:=lp N 0 [] OY OY (by simpa using j)
 simpa using this
theorem Lr {N:Nat} (c:1099400000000≤N) (d:bq) (s:af) (e:sk d) (f:pe s):kX N d s=some (nQ d s):=by
 unfold kX nQ
 rw[I7 OY d e,gb,EB OY s f]
 cases h1:ji d with
 | false=>simp
 | true=>
  cases b:iD s with
  | false=>simp
  | true=>
   have g:=uj h1
   have a:=m9 h1
   have:=NJ c d s OY (fun r h=>⟨BQ (a r h) b,Ev (a r h)⟩) 64000 (fun r h=>wO (a r h) b) OY
   simp[this]
theorem MK (r:ah) (s:af) (a:tW r s):∀ (k N:Nat) (out:List a7) (ids:List Int) (l:List aq),1099000000001+k≤N→ids.length+k=ac r.Pats→out.length+s.Items.length ^ k≤4294967296 →
  l.length+df ((r.Pats.take (ac r.Pats)).drop ids.length)≤1048576→gu N out r s ids l=some (out++jS (wd r s.Items) s.Items ((r.Pats.take (ac r.Pats)).drop ids.length) ids l):=by
 have z:=dv r.Pats
 have A:=a.pl
 intro k
 induction k with
 | zero=>
  intro N out ids l j hk b d
  obtain⟨N,rfl⟩:∃ M,N=M+1:=⟨N - 1,OY⟩
  have c1:decide ((ids.length:Int)=(ac r.Pats:Int))=true:=decide_eq_true OY
  have m:(r.Pats.take (ac r.Pats)).drop ids.length=[]:=hy (by rw[k0];omega)
  rw[m]
  simp only[gu,vY (show 1099000000000≤N by omega) r a.pl,gb,c1,if_true,GL (show 1099000000000≤N by omega) r s l a.pl a.pa a.xl OY,Gx (show 1099000000000≤N by omega) r.Conds l (by have:=a.cl;omega) OY,mL,jS,wd,nq]
  cases (!iN r.Pats s.Items l && r.Conds.all fun c=>holds c l) with
  | true=>
   simp only[if_true,gR (show ids.length≤4294967296 by omega),gR (show l.length≤4294967296 by omega),gb,cg (show out.length+[(⟨0,ids,l⟩:a7)].length≤4294967296 by simp at b ⊢;omega)]
  | false=>simp
 | succ k o=>
  intro N out ids l j hk b d
  obtain⟨N,rfl⟩:∃ M,N=M+1:=⟨N - 1,OY⟩
  have c1:decide ((ids.length:Int)=(ac r.Pats:Int))=false:=decide_eq_false OY
  have e:ids.length < r.Pats.length:=by omega
  have p:(r.Pats.take (ac r.Pats)).drop ids.length=r.Pats[ids.length] :: (r.Pats.take (ac r.Pats)).drop (ids.length+1):=by
   rw[hn (by rw[k0];omega),List.getElem_take]
  rw[p] at d ⊢
  rw[ef] at d
  have q:=a.pa _ (hB e)
  simp only[gu,vY (show 1099000000000≤N by omega) r a.pl,gb,c1,gf,if_false,jS]
  have v:s.Items.length ^ (k+1)=s.Items.length*s.Items.length ^ k:=by rw[Nat.pow_succ,Nat.mul_comm]
  rw[v] at b
  have B:=a.xl
  refine lp' (show 1099000000000≤N by omega) s.Items OY (fun n (u:List a7) i=>fa N r s ids l (gu N) n u i) (fun t u=>some (u++t.flatMap fun x=>if (aX r.Pats[ids.length] x.F l).2=true then jS (wd r s.Items) s.Items ((r.Pats.take (ac r.Pats)).drop (ids.length+1)) (ids++[x.Id]) (aX r.Pats[ids.length] x.F l).1 else []))
   (fun u t=>u.length+t.length*s.Items.length ^ k≤4294967296) out b (fun n u i x t g1 g2 g3 g4 g5 g6 f g=>?_) (fun n u i g1 g2 f=>?_)
  ·rw[gj,hE] at f
   have C:=jG r.Pats[ids.length] x.F l
   simp only[fa,g5,if_true,ag e,g4,gb,y4 (show 1099000000000≤N by omega) _ x.F l q OY,List.flatMap_cons,g6]
   cases hm:(aX r.Pats[ids.length] x.F l).2 with
   | true=>
    have w:=rD (u7 r s.Items) s.Items ((r.Pats.take (ac r.Pats)).drop (ids.length+1)) (ids++[x.Id]) (aX r.Pats[ids.length] x.F l).1
    have y:((r.Pats.take (ac r.Pats)).drop (ids.length+1)).length=k:=by rw[List.length_drop,k0];omega
    rw[y] at w
    have h:(ids++[x.Id]).length=ids.length+1:=by simp
    have:=o N u (ids++[x.Id]) (aX r.Pats[ids.length] x.F l).1 OY OY OY (by rw[h];omega)
    rw[h] at this
    simp only[if_true,gR (show ids.length≤4294967296 by omega),cg (show ids.length+[x.Id].length≤4294967296 by simp;omega),gb,this,mQ,g6]
    rw[g _ (by rw[gk];omega),gi]
   | false=>
    simp only[gf,if_false,ho]
    exact g u OY
  ·simp only[fa,g2,gf,if_false];simp
theorem OI {N:Nat} (b:1099400000000≤N) (r:ah) (s:af) (a:tW r s):sd N r s=some (iw r s.Items):=by
 unfold sd iw
 have h1:=pA (ac r.Pats) r.Pats
 have c:=dv r.Pats
 have d:=a.pl
 have e:=a.sa
 have f:=a.nm
 have:=MK r s a (ac r.Pats) N [] [] [] OY OZ (by simp;omega) (by simp;omega)
 rw[this];simp
theorem N5 {N:Nat} (e:1099400000000≤N) (d:bq) (s:af) (A:d.Rules.length≤1048576) (f:∀ r∈d.Rules,tW r s) (M:Nat) (g:∀ r∈d.Rules,(iw r s.Items).length≤M) (j:d.Rules.length*M≤4294967296):qN N d s=some (em s.Items 0 d.Rules):=by
 unfold qN
 have lp:∀ (n i:Nat) (out:List a7),i≤d.Rules.length→d.Rules.length - i < n→out.length+(d.Rules.length - i)*M≤4294967296→fK N d s n out i=some (out++em s.Items i (d.Rules.drop i)):=by
  intro n
  induction n with
  | zero=>intro i _ _ h;omega
  | succ n k=>
   intro i out B C l
   by_cases a:i < d.Rules.length
   ·have c1:decide ((i:Int) < (d.Rules.length:Int))=true:=decide_eq_true OY
    have c:=f _ (hB a)
    have hm:=g _ (hB a)
    have D:=ye c
    rw[hn a,em]
    simp only[fK,c1,if_true,ag a,gb,OI e _ s c]
    have o:(d.Rules.length - i)*M=M+(d.Rules.length - (i+1))*M:=by
     rw[show d.Rules.length - i=(d.Rules.length - (i+1))+1 by omega,hE];omega
    rw[o] at l
    have p:∀ (m:Nat) (todo done:List a7),todo.length < m→done.length+todo.length=(iw d.Rules[i] s.Items).length→∀ (u:List a7),u.length+todo.length+(d.Rules.length - (i+1))*M≤4294967296 →
      kj N (i:Int) (fK N d s n) m u (done++todo) (done.length:Int)=some (u++todo.map (jj i)++em s.Items (i+1) (d.Rules.drop (i+1))):=by
     intro m
     induction m with
     | zero=>intro _ _ h;omega
     | succ m q=>
      intro todo done v w u hu
      simp only[kj]
      cases todo with
      | nil=>
       have b:decide ((done.length:Int) < ((done++([]:List a7)).length:Int))=false:=decide_eq_false OZ
       rw[b]
       simp only[gf,if_false,wr1 i OY]
       rw[k (i+1) u OY OY (by simp at hu;omega)];simp
      | cons x t=>
       have b:decide ((done.length:Int) < ((done++x :: t).length:Int))=true:=decide_eq_true (by simp;omega)
       have y:idx (done++x :: t) (done.length:Int)=some x:=by
        rw[ag (show done.length < (done++x :: t).length by simp)];simp
       have z:(done++x :: t).set ((done.length:Int)).toNat (jj i x)=(done++[jj i x])++t:=by
        rw[hX,List.set_append_right _ _ (hz _)];simp
       simp only[gj] at v w hu
       rw[b]
       simp only[if_true,y,gb]
       rw[show (⟨(i:Int),x.Ids,x.Binds⟩:a7)=jj i x from rfl,cg (show u.length+[jj i x].length≤4294967296 by simp;omega),gb,z,wr1 _ OY]
       have:=q t (done++[jj i x]) OY (by simp;omega) (u++[jj i x]) (by simp;omega)
       rw[gk,gj,gx] at this
       rw[this];simp
    have:=p N (iw d.Rules[i] s.Items) [] OY OZ out OY
    simp only[ho,gx] at this
    rw[show ((0:Nat):Int)=0 from rfl] at this
    rw[this];simp
   ·have c1:decide ((i:Int) < (d.Rules.length:Int))=false:=decide_eq_false OY
    rw[hy OY]
    simp only[fK,c1,gf,if_false,em,j5]
 have:=lp N 0 [] OY OY (by simpa using j)
 simpa using this
theorem LQ {N:Nat} (c:1099400000000≤N) (d:bq) (s:af) (e:sk d) (f:pe s):kJ N d s=some (nQ d s):=by
 unfold kJ nQ
 rw[Ny OY d e,gb,Ko OY s f]
 cases h1:ji d with
 | false=>simp
 | true=>
  cases a:iD s with
  | false=>simp
  | true=>
   have g:=uj h1
   have b:=m9 h1
   have:=N5 c d s OY (fun r h=>BQ (b r h) a) 64000 (fun r h=>wO (b r h) a) OY
   simp[this]
theorem A9 {N:Nat} (k:1099400000000≤N) (b:List Int):lS N b=some true:=by
 have a:1099000000000≤N:=by omega
 unfold lS y0
 by_cases l:b.length≤1048576
 ·have c1:decide (1048576 < (b.length:Int))=false:=decide_eq_false OY
  obtain⟨c,o,g0⟩:=MI a b l
  obtain⟨d,m,s,A,p,h⟩:=MN a l g0
  have q:ov N b=some (d,cS d,m,s):=by
   unfold ov
   rw[o,gb,p,gb]
  have e:=CO h.def_
  have r:=Dp h.def_
  have f:=CQ r
  have B:=h.nx
  have hlen:=h.it.2.1
  have g:pe s:=⟨show s.Items.length≤1048576 by omega,DP h.it⟩
  have i:=Em h.it OY
  obtain⟨j,C,n⟩:=h.mem
  have t:=LY a e f g (E0 h.it) (show j≤40 by omega) n h.has
  have u:=JH a f g e i (show j≤40 by omega) n h.has
  have v:=K6 a (cS d) d f (tp (nF e))
  have w:nQ d s=em s.Items 0 d.Rules:=by unfold nQ;rw[e,i];rfl
  have x:=Lr k d s f g
  have y:=LQ k d s f g
  have z:=Gq a (em s.Items 0 d.Rules) (em s.Items 0 d.Rules) (LC e i)
  simp only[c1,gb,gf,if_false,q,t,u,v,e,decide_true,Bool.and_self,if_true,x,y,w,z,iq,io]
 ·have c1:decide (1048576 < (b.length:Int))=true:=decide_eq_true OY
  simp only[c1,gb,if_true]
namespace fnNetwork
theorem law {a:List Int} (w0:(WfL (WfI .u8)) a):lS 1099511627776 a=some true:=A9 OY a
end fnNetwork
end Go.Proofs.YtedmfnmbjglmbaaGreat
