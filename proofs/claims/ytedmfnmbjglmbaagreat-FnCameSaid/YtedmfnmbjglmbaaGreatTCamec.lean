/- Plain laws, one after the other: PLCame. -/
import Derived.Test.YtedmfnmbjglmbaaGreatTCameb
import Derived.Test.YtedmfnmbjglmbaaGreatPLib
import Derived.Test.YtedmfnmbjglmbaaGreatWCameMod
import Derived.Test.YtedmfnmbjglmbaaGreatWCamePur
namespace Go.Proofs.YtedmfnmbjglmbaaGreat
open Eng
set_option linter.unusedVariables false
set_option linter.unusedSimpArgs false
section
variable {α:Type} {lt:α→α→Bool}
theorem kJ (l:List α) (i j:Nat):(swp l i j).length=l.length:=by
 unfold swp;split <;> simp
theorem uN {l:List α} {i j:Nat} {x:α} (h:x∈swp l i j):x∈l:=by
 unfold swp at h
 split at h
 ·rename_i a b c d
  rcases Og h with h | h
  ·rcases Og h with h | h
   ·exact h
   ·rw[h];exact jf d
  ·rw[h];exact jf c
 ·exact h
theorem oW (a b:Nat):∀ (n k:Nat) (l:List α),(rI l a b k n).length=l.length
 | 0,_,_=>rfl
 | n+1,k,l=>by unfold rI;rw[oW a b n,kJ]
theorem uL {a b:Nat} {x:α}:∀ (n k:Nat) (l:List α),x∈rI l a b k n→x∈l
 | 0,_,_,h=>h
 | n+1,k,l,h=>uN (uL n (k+1) _ h)
theorem Ax (m:Nat):∀ (f i j:Nat) (l:List α),(rot l m f i j).length=l.length
 | 0,_,_,_=>rfl
 | f+1,i,j,l=>by
  unfold rot
  split
  ·rw[oW]
  ·split <;> rw[Ax m f,oW]
theorem xw {m:Nat} {x:α}:∀ (f i j:Nat) (l:List α),x∈rot l m f i j→x∈l
 | 0,_,_,_,h=>h
 | f+1,i,j,l,h=>by
  unfold rot at h
  split at h
  ·exact uL _ _ _ h
  ·split at h
   ·exact uL _ _ _ (xw f _ _ _ h)
   ·exact uL _ _ _ (xw f _ _ _ h)
theorem Eo:∀ (n k:Nat) (l:List α),(shR l k n).length=l.length
 | 0,_,_=>rfl
 | n+1,k,l=>by unfold shR;rw[Eo n,kJ]
theorem DL {x:α}:∀ (n k:Nat) (l:List α),x∈shR l k n→x∈l
 | 0,_,_,h=>h
 | n+1,k,l,h=>uN (DL n _ _ h)
theorem Ej:∀ (n k:Nat) (l:List α),(shL l k n).length=l.length
 | 0,_,_=>rfl
 | n+1,k,l=>by unfold shL;rw[Ej n,kJ]
theorem Er {x:α}:∀ (n k:Nat) (l:List α),x∈shL l k n→x∈l
 | 0,_,_,h=>h
 | n+1,k,l,h=>uN (Er n _ _ h)
theorem rf:∀ (f:Nat) (l:List α) (a m b:Nat),(ni lt f l a m b).length=l.length∧∀ x∈ni lt f l a m b,x∈l
 | 0,l,a,m,b=>⟨rfl,fun x h=>h⟩
 | f+1,l,a,m,b=>by
  unfold ni
  split
  ·exact⟨Eo _ _ _,fun x h=>DL _ _ _ h⟩
  ·split
   ·exact⟨Ej _ _ _,fun x h=>Er _ _ _ h⟩
   ·simp only
    generalize bsr _ _ _ _=s
    have e:∀ c:Prop,[Decidable c]→(if c then rot l m ((a+b) / 2+m - s - s) (m - s) ((a+b) / 2+m - s - m) else l).length=l.length∧∀ x∈(if c then rot l m ((a+b) / 2+m - s - s) (m - s) ((a+b) / 2+m - s - m) else l),x∈l:=fun c _=>by
     split
     ·exact⟨Ax _ _ _ _ _,fun x h=>xw _ _ _ _ h⟩
     ·exact⟨rfl,fun x h=>h⟩
    have d:∀ (c:Prop) [Decidable c] (u:List α) (p q r:Nat),(if c then ni lt f u p q r else u).length=u.length∧∀ x∈(if c then ni lt f u p q r else u),x∈u:=fun c _ u p q r=>by
     split
     ·exact rf f u p q r
     ·exact⟨rfl,fun x h=>h⟩
    obtain⟨g,a2⟩:=e (s < m∧m < (a+b) / 2+m - s)
    obtain⟨i,j⟩:=d (a < s∧s < (a+b) / 2) (if s < m∧m < (a+b) / 2+m - s then rot l m ((a+b) / 2+m - s - s) (m - s) ((a+b) / 2+m - s - m) else l) a s ((a+b) / 2)
    obtain⟨c1,c2⟩:=d ((a+b) / 2 < (a+b) / 2+m - s∧(a+b) / 2+m - s < b) (if a < s∧s < (a+b) / 2 then ni lt f (if s < m∧m < (a+b) / 2+m - s then rot l m ((a+b) / 2+m - s - s) (m - s) ((a+b) / 2+m - s - m) else l) a s ((a+b) / 2) else (if s < m∧m < (a+b) / 2+m - s then rot l m ((a+b) / 2+m - s - s) (m - s) ((a+b) / 2+m - s - m) else l)) ((a+b) / 2) ((a+b) / 2+m - s) b
    exact⟨by rw[c1,i,g],fun x h=>a2 x (j x (c2 x h))⟩
theorem vR:∀ (f:Nat) (l:List α) (a j:Nat),(zf lt f l a j).length=l.length∧∀ x∈zf lt f l a j,x∈l
 | 0,l,a,j=>⟨rfl,fun x h=>h⟩
 | f+1,l,a,j=>by
  unfold zf
  split
  ·obtain⟨h1,b⟩:=vR f (swp l (j - 1) j) a (j - 1)
   exact⟨by rw[h1,kJ],fun x h=>uN (b x h)⟩
  ·exact⟨rfl,fun x h=>h⟩
theorem tC:∀ (f:Nat) (l:List α) (a i b:Nat),(uf lt f l a i b).length=l.length∧∀ x∈uf lt f l a i b,x∈l
 | 0,l,a,i,b=>⟨rfl,fun x h=>h⟩
 | f+1,l,a,i,b=>by
  unfold uf
  split
  ·obtain⟨h1,c⟩:=tC f (zf lt (i - a+1) l a i) a (i+1) b
   obtain⟨g1,g2⟩:=vR (lt:=lt) (i - a+1) l a i
   exact⟨by rw[h1,g1],fun x h=>g2 x (c x h)⟩
  ·exact⟨rfl,fun x h=>h⟩
end
theorem wA {x y:Nat} (h:x+y≤4611686018427387904):IntKind.i64.wrap ((x:Int)+(y:Int))=((x+y:Nat):Int):=by
 rw[wr NR NR];omega
theorem wS {x y:Nat} (h:y≤x) (a:x≤4611686018427387904):IntKind.i64.wrap ((x:Int) - (y:Int))=((x - y:Nat):Int):=by
 rw[wr NR NR];omega
theorem wS1 {x:Nat} (h:1≤x) (a:x≤4611686018427387904):IntKind.i64.wrap ((x:Int) - 1)=((x - 1:Nat):Int):=by
 rw[wr NR NR];omega
theorem Cn {x y:Nat} (h:x+y≤4611686018427387904):IntKind.i64.wrap (fc .u64 (IntKind.u64.wrap (IntKind.i64.wrap ((x:Int)+(y:Int)))) 1)=(((x+y) / 2:Nat):Int):=by
 rw[wA h]
 have hu:IntKind.u64.wrap ((x+y:Nat):Int)=((x+y:Nat):Int):=by
  simp only[IntKind.wrap,IntKind.bits,IntKind.signed,Bool.false_and,fI,if_false]
  have a:(2:Int) ^ 64=18446744073709551616:=by decide
  rw[a];omega
 rw[hu]
 have b:fc .u64 ((x+y:Nat):Int) 1=(((x+y) / 2:Nat):Int):=by
  unfold fc
  have e:(2:Int) ^ (min (1:Int).toNat IntKind.u64.bits)=2:=by decide
  rw[e,Int.fdiv_eq_ediv_of_nonneg _ NR]
  omega
 rw[b]
 exact wr NR NR
theorem qH {α:Type} {l:List α} {i j:Nat} {x y:α} (h1:l[i]?=some x) (a:l[j]?=some y):swp l i j=(l.set i y).set j x:=by
 unfold swp;rw[h1,a]
theorem EM (N a b n:Nat):∀ (fuel:Nat) (l:List a7) (i:Nat),n - i < fuel→i≤n→a+n≤l.length→b+n≤l.length→l.length≤4294967296 →
  bB N (a:Int) (b:Int) (n:Int) fuel l (i:Int)=some (rI l a b i (n - i))
 | 0,l,i,h,_,_,_,_=>by omega
 | fuel+1,l,i,h,o,g,j,k=>by
  by_cases c:i < n
  ·have c1:decide ((i:Int) < (n:Int))=true:=decide_eq_true NR
   have d:a+i < l.length:=by omega
   have e:b+i < l.length:=by omega
   have m:b+i < (l.set (a+i) l[b+i]).length:=by rw[px];omega
   have f:=EM N a b n fuel (swp l (a+i) (b+i)) (i+1) NR NR (by rw[kJ];exact g) (by rw[kJ];exact j) (by rw[kJ];exact k)
   rw[qH (gj d) (gj e)] at f
   rw[show n - i=(n - (i+1))+1 by omega,rI,qH (gj d) (gj e)]
   simp only[bB,c1,if_true,wA (x:=b) (y:=i) NR,wA (x:=a) (y:=i) NR,ah d,ah e,fz,hW,ah m,wr1 i NR,f]
  ·have c1:decide ((i:Int) < (n:Int))=false:=decide_eq_false NR
   rw[show n - i=0 by omega]
   simp only[bB,c1,fI,if_false,rI]
theorem DG {N a b n:Nat} (p:a7→a7→Option Int) (l:List a7) (f:n < N) (c:a+n≤l.length) (d:b+n≤l.length) (e:l.length≤4294967296):bV N l (a:Int) (b:Int) (n:Int) p=some (rI l a b 0 n):=by
 unfold bV
 have:=EM N a b n N l 0 NR NR c d e
 simpa using this
theorem HX {N m:Nat} (p:a7→a7→Option Int):∀ (f fuel:Nat) (l:List a7) (i j:Nat),i+j≤f→f < fuel→f < N→0 < i→0 < j→i≤m→m+j≤l.length→l.length≤4294967296 →
  bm N (m:Int) p fuel l (i:Int) (j:Int)=some (rot l m f i j)
 | 0,_,_,_,_,h1,_,_,q,_,_,_,_=>by omega
 | f+1,0,_,_,_,_,r,_,_,_,_,_,_=>by omega
 | f+1,fuel+1,l,i,j,h1,r,t,q,s,e,g,d=>by
  unfold rot
  by_cases c:i=j
  ·subst c
   have:=DG (N:=N) (a:=m - i) (b:=m) (n:=i) p l NR NR g d
   simp only[bm,decide_true,hA,fI,if_false,wS (x:=m) (y:=i) e NR,this,fz,if_true]
  ·have c1:decide ((i:Int)=(j:Int))=false:=decide_eq_false NR
   by_cases c2:j < i
   ·have h:decide ((j:Int) < (i:Int))=true:=decide_eq_true NR
    have k:=DG (N:=N) (a:=m - i) (b:=m) (n:=j) p l NR NR g d
    have o:=HX (N:=N) (m:=m) p f fuel (rI l (m - i) m 0 j) (i - j) j NR NR NR NR s NR (by rw[oW];exact g) (by rw[oW];exact d)
    simp only[bm,c1,hI,if_true,h,wS (x:=m) (y:=i) e NR,k,fz,wS (x:=i) (y:=j) NR NR,o,if_neg c,if_pos c2]
   ·have h:decide ((j:Int) < (i:Int))=false:=decide_eq_false NR
    have k:=DG (N:=N) (a:=m - i) (b:=m+j - i) (n:=i) p l NR NR NR d
    have o:=HX (N:=N) (m:=m) p f fuel (rI l (m - i) (m+j - i) 0 i) i (j - i) NR NR NR q NR e (by rw[oW];omega) (by rw[oW];exact d)
    simp only[bm,c1,hI,if_true,h,fI,if_false,wS (x:=m) (y:=i) e NR,wA (x:=m) (y:=j) NR,wS (x:=m+j) (y:=i) NR NR,k,fz,wS (x:=j) (y:=i) NR NR,o,if_neg c,if_neg c2]
theorem GL {N a m b:Nat} (p:a7→a7→Option Int) (l:List a7) (c:b - a < N) (h1:a < m) (e:m < b) (f:b≤l.length) (d:l.length≤4294967296) :
  dt N l (a:Int) (m:Int) (b:Int) p=some (rot l m (b - a) (m - a) (b - m)):=by
 unfold dt
 rw[wS (x:=m) (y:=a) NR NR,wS (x:=b) (y:=m) NR NR]
 exact HX p (b - a) N l (m - a) (b - m) NR c c NR NR NR NR d
def th (p:a7→a7→Option Int) (lt:a7→a7→Bool) (l:List a7):Prop:=∀ x∈l,∀ y∈l,∃ v,p x y=some v∧lt x y=decide (v < 0)
theorem th.sub {p:a7→a7→Option Int} {lt:a7→a7→Bool} {l u:List a7} (h:th p lt l) (a:∀ x∈u,x∈l):th p lt u:=fun x b y c=>h x (a x b) y (a y c)
theorem th.at_ {p:a7→a7→Option Int} {lt:a7→a7→Bool} {l:List a7} (h:th p lt l) {i j:Nat} (a:i < l.length) (b:j < l.length):∃ v,p l[i] l[j]=some v∧tF lt l i j=decide (v < 0):=by
 obtain⟨v,h1,c⟩:=h _ (hG a) _ (hG b)
 exact⟨v,h1,by rw[lW (gj a) (gj b),c]⟩
theorem JO (N a:Nat):∀ (fuel:Nat) (l:List a7) (k:Nat),a - k < fuel→1≤a→a≤l.length→l.length≤4294967296→cu N (a:Int) fuel l (k:Int)=some (shR l k (a - 1 - k))
 | 0,l,k,h,_,_,_=>by omega
 | fuel+1,l,k,h,h1,f,g=>by
  rw[cu,wS1 h1 NR]
  by_cases c:k < a - 1
  ·have c1:decide ((k:Int) < ((a - 1:Nat):Int))=true:=decide_eq_true NR
   have b:k < l.length:=by omega
   have d:k+1 < l.length:=by omega
   have i:k+1 < (l.set k l[k+1]).length:=by rw[px];omega
   have e:=JO N a fuel (swp l k (k+1)) (k+1) NR h1 (by rw[kJ];exact f) (by rw[kJ];exact g)
   rw[qH (gj b) (gj d)] at e
   rw[show a - 1 - k=(a - 1 - (k+1))+1 by omega,shR,qH (gj b) (gj d)]
   simp only[c1,if_true,wr1 k NR,ah b,ah d,fz,hW,ah i,e]
  ·have c1:decide ((k:Int) < ((a - 1:Nat):Int))=false:=decide_eq_false NR
   rw[show a - 1 - k=0 by omega]
   simp only[c1,fI,if_false,shR]
theorem Kb (N a:Nat):∀ (fuel:Nat) (l:List a7) (k:Nat),k - a < fuel→k < l.length→l.length≤4294967296→cw N (a:Int) fuel l (k:Int)=some (shL l k (k - a))
 | 0,l,k,h,_,_=>by omega
 | fuel+1,l,k,h,b,g=>by
  rw[cw]
  by_cases c:a < k
  ·have c1:decide ((a:Int) < (k:Int))=true:=decide_eq_true NR
   have d:k - 1 < l.length:=by omega
   have i:k - 1 < (l.set k l[k - 1]).length:=by rw[px];omega
   have f:=Kb N a fuel (swp l (k - 1) k) (k - 1) NR (by rw[kJ];omega) (by rw[kJ];exact g)
   have e:=qH (gj d) (gj b)
   rw[List.set_comm _ _ (show k - 1≠k by omega)] at e
   rw[e] at f
   rw[show k - a=(k - 1 - a)+1 by omega,shL,e]
   simp only[c1,if_true,wS1 (x:=k) NR NR,ah d,ah b,fz,hW,ah i,f]
  ·have c1:decide ((a:Int) < (k:Int))=false:=decide_eq_false NR
   rw[show k - a=0 by omega]
   simp only[c1,fI,if_false,shL]
theorem Ii {N a:Nat} {p:a7→a7→Option Int} {lt:a7→a7→Bool} {l:List a7} (d:th p lt l) (b:a < l.length) (e:l.length≤4294967296) (g:l.length < N) :
  ∀ (f fuel i j:Nat),j - i < f→j - i < fuel→a < i→i≤j→j≤l.length→bo N l (a:Int) p fuel (i:Int) (j:Int)=some (shR l a (bsr (fun h=>tF lt l h a) f i j - 1 - a))
 | 0,_,_,_,h,_,_,_,_=>by omega
 | f+1,0,_,_,_,h,_,_,_=>by omega
 | f+1,fuel+1,i,j,h1,o,m,q,n=>by
  rw[bo,bsr]
  by_cases c:i < j
  ·have c1:decide ((i:Int) < (j:Int))=true:=decide_eq_true NR
   have hm:(i+j) / 2 < l.length:=by omega
   obtain⟨v,v1,v2⟩:=d.at_ hm b
   simp only[c1,if_true,Cn (x:=i) (y:=j) NR,ah hm,ah b,fz,v1,if_pos c,v2]
   by_cases k:v < 0
   ·simp only[k,decide_true,if_true,wr1 ((i+j) / 2) NR]
    exact Ii d b e g f fuel _ _ NR NR NR NR n
   ·simp only[k,decide_false,fI,if_false]
    exact Ii d b e g f fuel _ _ NR NR m NR NR
  ·have c1:decide ((i:Int) < (j:Int))=false:=decide_eq_false NR
   simp only[c1,fI,if_false,if_neg c]
   exact JO N i N l a NR NR NR e
theorem Ho {N m:Nat} {p:a7→a7→Option Int} {lt:a7→a7→Bool} {l:List a7} (b:th p lt l) (a:m < l.length) (d:l.length≤4294967296) (e:l.length < N) :
  ∀ (f fuel i j:Nat),j - i < f→j - i < fuel→i≤j→j≤m→bp N l (m:Int) p fuel (i:Int) (j:Int)=some (shL l m (m - bsr (fun h=>!tF lt l m h) f i j))
 | 0,_,_,_,h,_,_,_=>by omega
 | f+1,0,_,_,_,h,_,_=>by omega
 | f+1,fuel+1,i,j,h1,n,o,k=>by
  rw[bp,bsr]
  by_cases c:i < j
  ·have c1:decide ((i:Int) < (j:Int))=true:=decide_eq_true NR
   have hm:(i+j) / 2 < l.length:=by omega
   obtain⟨v,v1,v2⟩:=b.at_ a hm
   simp only[c1,if_true,Cn (x:=i) (y:=j) NR,ah hm,ah a,fz,v1,if_pos c,v2]
   by_cases g:v < 0
   ·simp only[g,decide_true,hA,fI,if_false]
    exact Ho b a d e f fuel _ _ NR NR NR NR
   ·simp only[g,decide_false,hI,if_true,wr1 ((i+j) / 2) NR]
    exact Ho b a d e f fuel _ _ NR NR NR k
  ·have c1:decide ((i:Int) < (j:Int))=false:=decide_eq_false NR
   simp only[c1,fI,if_false,if_neg c]
   exact Kb N i N l m NR a d
theorem GK {a b:Prop} [Decidable a] [Decidable b]:(if decide a=true then some (decide b) else some false)=some (decide (a∧b)):=by
 by_cases h:a <;> simp[h]
theorem KP {N f a m b s:Nat} {p:a7→a7→Option Int} {lt:a7→a7→Bool} {RF:List a7→Int→Int→Int→(a7→a7→Option Int)→Option (List a7)} (u:List a7) (hu:u.length≤4294967296) (hm:m < b) (h:a < m) (i:b≤u.length) (j:s≤(a+b) / 2)
  (d:(a+b) / 2 < (a+b) / 2+m - s→(a+b) / 2+m - s < b→RF u (((a+b) / 2:Nat):Int) (((a+b) / 2+m - s:Nat):Int) (b:Int) p=some (ni lt f u ((a+b) / 2) ((a+b) / 2+m - s) b)) :
  ct N (a:Int) (m:Int) (b:Int) p RF (s:Int) u=some (if (a+b) / 2 < (a+b) / 2+m - s∧(a+b) / 2+m - s < b then ni lt f u ((a+b) / 2) ((a+b) / 2+m - s) b else u):=by
 have e:((((a+b) / 2:Nat):Int) < (((a+b) / 2+m - s:Nat):Int))=((a+b) / 2 < (a+b) / 2+m - s):=propext vy
 have g:((((a+b) / 2+m - s:Nat):Int) < (b:Int))=((a+b) / 2+m - s < b):=propext vy
 unfold ct
 simp only[Cn (x:=a) (y:=b) NR,wA (x:=(a+b) / 2) (y:=m) NR,wS (x:=(a+b) / 2+m) (y:=s) NR NR,GK,fz,e,g]
 by_cases c:(a+b) / 2 < (a+b) / 2+m - s∧(a+b) / 2+m - s < b
 ·simp only[c,and_self,decide_true,if_true,d c.1 c.2,fz]
 ·simp only[c,decide_false,fI,if_false]
theorem Gu {N f a m b s:Nat} {p:a7→a7→Option Int} {lt:a7→a7→Bool} {RF:List a7→Int→Int→Int→(a7→a7→Option Int)→Option (List a7)} (l u:List a7) (h:u.length=l.length) (i:∀ x∈u,x∈l) (hu:l.length≤4294967296) (hm:m < b) (n:a < m) (o:b≤l.length) (q:s≤(a+b) / 2) (E:b - a≤f+1)
  (j:∀ (v:List a7) (e g d:Nat),v.length=l.length→(∀ x∈v,x∈l)→e < g→g < d→d≤l.length→d - e≤f→RF v (e:Int) (g:Int) (d:Int) p=some (ni lt f v e g d)) :
  cz N (a:Int) (m:Int) (b:Int) p RF (s:Int) u=some (if (a+b) / 2 < (a+b) / 2+m - s∧(a+b) / 2+m - s < b then ni lt f (if a < s∧s < (a+b) / 2 then ni lt f u a s ((a+b) / 2) else u) ((a+b) / 2) ((a+b) / 2+m - s) b else (if a < s∧s < (a+b) / 2 then ni lt f u a s ((a+b) / 2) else u)):=by
 have r:((a:Int) < (s:Int))=(a < s):=propext vy
 have t:((s:Int) < (((a+b) / 2:Nat):Int))=(s < (a+b) / 2):=propext vy
 unfold cz
 simp only[Cn (x:=a) (y:=b) NR,GK,fz,r,t]
 have k:=fun(v:List a7) (h1:v.length=l.length) (w:∀ x∈v,x∈l)=>KP (N:=N) (f:=f) (lt:=lt) (RF:=RF) (p:=p) (s:=s) v NR hm n NR q (fun z A=>j v _ _ _ h1 w z A o NR)
 by_cases c:a < s∧s < (a+b) / 2
 ·obtain⟨B,C⟩:=rf (lt:=lt) f u a s ((a+b) / 2)
  simp only[c,and_self,decide_true,if_true,j u a s ((a+b) / 2) h i c.1 c.2 NR NR,fz]
  exact k _ (by rw[B,h]) (fun x D=>i x (C x D))
 ·simp only[c,decide_false,fI,if_false]
  exact k u h i
theorem CS {N f a m b:Nat} {p:a7→a7→Option Int} {lt:a7→a7→Bool} {RF:List a7→Int→Int→Int→(a7→a7→Option Int)→Option (List a7)} (l:List a7) (u:th p lt l) (hu:l.length≤4294967296) (z:l.length < N) (hm:m < b) (k:a < m) (n:b≤l.length) (o:b - a≤f+1)
  (q:∀ (v:List a7) (r t d:Nat),v.length=l.length→(∀ x∈v,x∈l)→r < t→t < d→d≤l.length→d - r≤f→RF v (r:Int) (t:Int) (d:Int) p=some (ni lt f v r t d)) :
  ∀ (g fuel i j:Nat),j - i < g→j - i < fuel→i≤j→j≤(a+b) / 2→j≤m→a≤i→(a+b) / 2+m≤b+i →
   bq N l (a:Int) (m:Int) (b:Int) p RF fuel (i:Int) (j:Int)=some (
    let s:=bsr (fun c=>!tF lt l ((a+b) / 2+m - 1 - c) c) g i j
    let e:=(a+b) / 2+m - s
    let l1:=if s < m∧m < e then rot l m (e - s) (m - s) (e - m) else l
    let l2:=if a < s∧s < (a+b) / 2 then ni lt f l1 a s ((a+b) / 2) else l1
    if (a+b) / 2 < e∧e < b then ni lt f l2 ((a+b) / 2) e b else l2)
 | 0,_,_,_,h,_,_,_,_,_,_=>by omega
 | g+1,0,_,_,_,h,_,_,_,_,_=>by omega
 | g+1,fuel+1,i,j,h1,K,L,C,D,E,F=>by
  rw[bq,bsr]
  by_cases c:i < j
  ·have c1:decide ((i:Int) < (j:Int))=true:=decide_eq_true NR
   have A:(i+j) / 2 < l.length:=by omega
   have hp:(a+b) / 2+m - 1 - (i+j) / 2 < l.length:=by omega
   obtain⟨v,v1,v2⟩:=u.at_ hp A
   simp only[c1,if_true,Cn (x:=a) (y:=b) NR,Cn (x:=i) (y:=j) NR,wA (x:=(a+b) / 2) (y:=m) NR,wS1 (x:=(a+b) / 2+m) NR NR,wS (x:=(a+b) / 2+m - 1) (y:=(i+j) / 2) NR NR,ah A,ah hp,fz,v1,if_pos c,v2]
   by_cases B:v < 0
   ·simp only[B,decide_true,hA,fI,if_false]
    exact CS l u hu z hm k n o q g fuel _ _ NR NR NR NR NR E F
   ·simp only[B,decide_false,hI,if_true,wr1 ((i+j) / 2) NR]
    exact CS l u hu z hm k n o q g fuel _ _ NR NR NR C D NR NR
  ·have c1:decide ((i:Int) < (j:Int))=false:=decide_eq_false NR
   have G:((i:Int) < (m:Int))=(i < m):=propext vy
   have H:((m:Int) < (((a+b) / 2+m - i:Nat):Int))=(m < (a+b) / 2+m - i):=propext vy
   simp only[c1,fI,if_false,if_neg c,Cn (x:=a) (y:=b) NR,wA (x:=(a+b) / 2) (y:=m) NR,wS (x:=(a+b) / 2+m) (y:=i) NR NR,GK,fz,G,H]
   by_cases c2:i < m∧m < (a+b) / 2+m - i
   ·have I:=GL (N:=N) (a:=i) (m:=m) (b:=(a+b) / 2+m - i) p l NR c2.1 c2.2 NR hu
    simp only[c2,and_self,decide_true,if_true,I,fz]
    exact Gu l _ (Ax _ _ _ _ _) (fun x w=>xw _ _ _ _ w) hu hm k n NR o q
   ·simp only[c2,decide_false,fI,if_false]
    exact Gu l l rfl (fun x w=>w) hu hm k n NR o q
theorem CH {p:a7→a7→Option Int} {lt:a7→a7→Bool}:∀ (f N:Nat) (l:List a7) (a m b:Nat),th p lt l→l.length≤4294967296→l.length+f < N→a < m→m < b→b≤l.length→b - a≤f →
  aA N l (a:Int) (m:Int) (b:Int) p=some (ni lt f l a m b)
 | 0,_,_,_,_,_,_,_,_,h1,k,_,i=>by omega
 | f+1,0,_,_,_,_,_,_,h,_,_,_,_=>by omega
 | f+1,N+1,l,a,m,b,g,j,s,h1,k,i,q=>by
  rw[aA,wS (x:=m) (y:=a) NR NR,wS (x:=b) (y:=m) NR NR,Cn (x:=a) (y:=b) NR]
  unfold ni
  by_cases c1:m - a=1
  ·have d1:decide (((m - a:Nat):Int)=1)=true:=decide_eq_true NR
   rw[d1,if_pos rfl,if_pos c1]
   exact Ii g NR j NR (b - m+1) N m b NR NR h1 NR i
  ·have d1:decide (((m - a:Nat):Int)=1)=false:=decide_eq_false NR
   rw[d1,if_neg NS,if_neg c1]
   by_cases c2:b - m=1
   ·have d2:decide (((b - m:Nat):Int)=1)=true:=decide_eq_true NR
    rw[d2,if_pos rfl,if_pos c2]
    exact Ho g NR j NR (m - a+1) N a m NR NR NR (hn _)
   ·have d2:decide (((b - m:Nat):Int)=1)=false:=decide_eq_false NR
    rw[d2,if_neg NS,if_neg c2]
    have r:∀ (v:List a7) (d e c:Nat),v.length=l.length→(∀ x∈v,x∈l)→d < e→e < c→c≤l.length→c - d≤f→aA N v (d:Int) (e:Int) (c:Int) p=some (ni lt f v d e c):=
     fun v d e c g1 g2 g3 g4 g5 g6=>CH f N v d e c (g.sub g2) NR NR g3 g4 NR g6
    have n:=CS (N:=N) (f:=f) (a:=a) (m:=m) (b:=b) (lt:=lt) l g j NR k h1 i q r
    by_cases o:(a+b) / 2 < m
    ·have d3:decide ((((a+b) / 2:Nat):Int) < (m:Int))=true:=decide_eq_true NR
     simp only[d3,if_true,if_pos o,bI,wA (x:=(a+b) / 2) (y:=m) NR,wS (x:=(a+b) / 2+m) (y:=b) NR NR]
     exact n ((a+b) / 2 - ((a+b) / 2+m - b)+1) N ((a+b) / 2+m - b) ((a+b) / 2) NR NR NR (hn _) NR NR NR
    ·have d3:decide ((((a+b) / 2:Nat):Int) < (m:Int))=false:=decide_eq_false NR
     simp only[d3,fI,if_false,if_neg o,bI]
     exact n (m - a+1) N a m NR NR NR NR (hn _) (hn _) NR
section
variable {α:Type} {lt:α→α→Bool}
theorem A6 (s:Nat):∀ (f:Nat) (l:List α) (a n:Nat),(yv lt s f l a n).length=l.length∧∀ x∈yv lt s f l a n,x∈l
 | 0,l,a,n=>⟨rfl,fun x h=>h⟩
 | f+1,l,a,n=>by
  unfold yv
  split
  ·obtain⟨h1,b⟩:=tC (lt:=lt) (s+1) l a (a+1) (a+s)
   obtain⟨g1,g2⟩:=A6 s f (uf lt (s+1) l a (a+1) (a+s)) (a+s) n
   exact⟨by rw[g1,h1],fun x h=>b x (g2 x h)⟩
  ·exact tC _ _ _ _ _
theorem BB (F s:Nat):∀ (f:Nat) (l:List α) (a n:Nat),(pas lt F s f l a n).length=l.length∧∀ x∈pas lt F s f l a n,x∈l
 | 0,l,a,n=>⟨rfl,fun x h=>h⟩
 | f+1,l,a,n=>by
  unfold pas
  split
  ·obtain⟨h1,b⟩:=rf (lt:=lt) F l a (a+s) (a+2*s)
   obtain⟨g1,g2⟩:=BB F s f (ni lt F l a (a+s) (a+2*s)) (a+2*s) n
   exact⟨by rw[g1,h1],fun x h=>b x (g2 x h)⟩
  ·split
   ·exact rf _ _ _ _ _
   ·exact⟨rfl,fun x h=>h⟩
end
variable {p:a7→a7→Option Int} {lt:a7→a7→Bool}
theorem Hw {N a i:Nat} (K:List a7→Int→Option (List a7)):∀ (f fuel:Nat) (l:List a7) (j:Nat),j - a < f→j - a < fuel→j < l.length→th p lt l→l.length≤4294967296 →
  bE N (a:Int) p (i:Int) K fuel l (j:Int)=K (zf lt f l a j) (IntKind.i64.wrap ((i:Int)+1))
 | 0,_,_,_,h,_,_,_,_=>by omega
 | f+1,0,_,_,_,h,_,_,_=>by omega
 | f+1,fuel+1,l,j,h1,r,b,g,n=>by
  rw[bE,zf]
  by_cases c:a < j
  ·have c1:decide ((a:Int) < (j:Int))=true:=decide_eq_true NR
   have d:j - 1 < l.length:=by omega
   have o:j - 1 < (l.set j l[j - 1]).length:=by rw[px];omega
   obtain⟨v,v1,v2⟩:=g.at_ b d
   simp only[c1,if_true,wS1 (x:=j) NR NR,ah b,ah d,fz,v1,v2]
   by_cases k:v < 0
   ·have e:=qH (gj d) (gj b)
    rw[List.set_comm _ _ (show j - 1≠j by omega)] at e
    have m:=Hw (N:=N) (a:=a) (i:=i) K f fuel (swp l (j - 1) j) (j - 1) NR NR (by rw[kJ];omega) (g.sub fun x q=>uN q) (by rw[kJ];exact n)
    rw[e] at m
    simp only[k,decide_true,if_true,hW,ah o,fz,c,and_self,e,m]
   ·simp only[k,decide_false,fI,if_false,and_false]
  ·have c1:decide ((a:Int) < (j:Int))=false:=decide_eq_false NR
   simp only[c1,fI,if_false,fz,c,false_and]
theorem Gx {N a b:Nat} (e:b < N):∀ (f fuel:Nat) (l:List a7) (i:Nat),b - i < f→b - i < fuel→b≤l.length→th p lt l→l.length≤4294967296 →
  bk N (a:Int) (b:Int) p fuel l (i:Int)=some (uf lt f l a i b)
 | 0,_,_,_,h,_,_,_,_=>by omega
 | f+1,0,_,_,_,h,_,_,_=>by omega
 | f+1,fuel+1,l,i,h1,k,m,d,g=>by
  rw[bk,uf]
  by_cases c:i < b
  ·have c1:decide ((i:Int) < (b:Int))=true:=decide_eq_true NR
   obtain⟨n,j⟩:=vR (lt:=lt) (i - a+1) l a i
   rw[c1,if_pos rfl,if_pos c,Hw (lt:=lt) _ (i - a+1) N l i NR NR NR d g,wr1 i NR]
   exact Gx e f fuel _ (i+1) NR NR NR (d.sub j) NR
  ·have c1:decide ((i:Int) < (b:Int))=false:=decide_eq_false NR
   rw[c1,if_neg NS,if_neg c]
theorem JQ {N a b f:Nat} (l:List a7) (c:b < N) (d:b - (a+1) < f) (e:b≤l.length) (i:a≤b) (g:th p lt l) (h:l.length≤4294967296) :
  bT N l (a:Int) (b:Int) p=some (uf lt f l a (a+1) b):=by
 unfold bT
 rw[wr1 a NR]
 exact Gx c f N l (a+1) d NR e g h
theorem Hx {N n:Nat} (d:n < N):∀ (f fuel:Nat) (l:List a7) (a:Nat),n - a < f→n - a < fuel→a≤n→n≤l.length→th p lt l→l.length≤4294967296 →
  bW N (n:Int) p fuel l (a:Int) ((a+20:Nat):Int)=bn N (n:Int) p N (yv lt 20 f l a n) 20
 | 0,_,_,_,h,_,_,_,_,_=>by omega
 | f+1,0,_,_,_,h,_,_,_,_=>by omega
 | f+1,fuel+1,l,a,h1,m,i,j,b,g=>by
  rw[bW,yv]
  by_cases c:a+20≤n
  ·have c1:decide (((a+20:Nat):Int)≤(n:Int))=true:=decide_eq_true NR
   obtain⟨o,k⟩:=tC (lt:=lt) (20+1) l a (a+1) (a+20)
   have e:IntKind.i64.wrap (((a+20:Nat):Int)+20)=((a+20+20:Nat):Int):=wA (x:=a+20) (y:=20) NR
   rw[c1,if_pos rfl,if_pos c,JQ (lt:=lt) (f:=20+1) l NR NR NR NR b g,fz,e]
   exact Hx d f fuel _ (a+20) NR NR c NR (b.sub k) NR
  ·have c1:decide (((a+20:Nat):Int)≤(n:Int))=false:=decide_eq_false NR
   rw[c1,if_neg NS,if_neg c,JQ (lt:=lt) (f:=n - a+1) l d NR j i b g,fz]
theorem JW {N n F s:Nat} (e:n≤4294967296) (g:0 < s) (i:s < n) (j:n≤F) (k:n+F < N) (K:List a7→Int→Option (List a7)):∀ (f fuel:Nat) (l:List a7) (a:Nat),n - a < f→n - a < fuel→a≤n→l.length=n→th p lt l →
  cF N (n:Int) p (s:Int) K fuel l (a:Int) ((a+2*s:Nat):Int)=K (pas lt F s f l a n) ((2*s:Nat):Int)
 | 0,_,_,_,h,_,_,_,_=>by omega
 | f+1,0,_,_,_,h,_,_,_=>by omega
 | f+1,fuel+1,l,a,h1,r,t,u,b=>by
  rw[cF,pas]
  have m:IntKind.i64.wrap ((s:Int)*2)=((2*s:Nat):Int):=by rw[wr NR NR];omega
  have o:IntKind.i64.wrap (2*(s:Int))=((2*s:Nat):Int):=by rw[wr NR NR];omega
  rw[wA (x:=a) (y:=s) NR,m]
  by_cases c:a+2*s≤n
  ·have c1:decide (((a+2*s:Nat):Int)≤(n:Int))=true:=decide_eq_true NR
   obtain⟨v,q⟩:=rf (lt:=lt) F l a (a+s) (a+2*s)
   have d:=CH F N l a (a+s) (a+2*s) b NR NR NR NR NR NR
   rw[c1,if_pos rfl,if_pos c,d,fz,o,wA (x:=a+2*s) (y:=2*s) NR]
   exact JW e g i j k K f fuel _ (a+2*s) NR NR c NR (b.sub q)
  ·have c1:decide (((a+2*s:Nat):Int)≤(n:Int))=false:=decide_eq_false NR
   rw[c1,if_neg NS,if_neg c]
   by_cases c2:a+s < n
   ·have d1:decide (((a+s:Nat):Int) < (n:Int))=true:=decide_eq_true NR
    have d:=CH F N l a (a+s) n b NR NR NR NR NR NR
    rw[d1,if_pos rfl,if_pos c2,d,fz]
   ·have d1:decide (((a+s:Nat):Int) < (n:Int))=false:=decide_eq_false NR
    rw[d1,if_neg NS,if_neg c2]
theorem JY {N n F:Nat} (b:n≤4294967296) (d:n≤F) (e:n+F < N):∀ (f fuel:Nat) (l:List a7) (s:Nat),0 < s→n - s < f→n - s < fuel→l.length=n→th p lt l →
  bn N (n:Int) p fuel l (s:Int)=some (stL lt F f l n s)
 | 0,_,_,_,_,h,_,_,_=>by omega
 | f+1,0,_,_,_,_,h,_,_=>by omega
 | f+1,fuel+1,l,s,i,h1,o,j,g=>by
  rw[bn,stL]
  by_cases c:s < n
  ·have c1:decide ((s:Int) < (n:Int))=true:=decide_eq_true NR
   have k:IntKind.i64.wrap (2*(s:Int))=((0+2*s:Nat):Int):=by rw[wr NR NR];omega
   obtain⟨q,m⟩:=BB (lt:=lt) F s (n+1) l 0 n
   rw[c1,if_pos rfl,if_pos c,k]
   refine (JW (lt:=lt) (a:=0) b i c d e _ (n+1) N l NR NR NR j g).trans ?_
   exact JY b d e f fuel _ (2*s) NR NR NR NR (g.sub m)
  ·have c1:decide ((s:Int) < (n:Int))=false:=decide_eq_false NR
   rw[c1,if_neg NS,if_neg c]
theorem LG {N:Nat} (l:List a7) (a:th p lt l) (b:l.length≤4294967296) (c:l.length+l.length < N):cr N l p=some (wj lt l.length l):=by
 unfold cr eR wj
 obtain⟨d,e⟩:=A6 (lt:=lt) 20 (l.length+1) l 0 l.length
 have h1:=Hx (lt:=lt) (N:=N) (n:=l.length) NR (l.length+1) N l 0 NR NR NR (hn _) a b
 simp only[Int.natCast_zero,ho] at h1
 have f:bW N (l.length:Int) p N l 0 20=_:=h1
 have g:=JY (lt:=lt) (N:=N) (n:=l.length) (F:=l.length) b (hn _) c (l.length+1) N (yv lt 20 (l.length+1) l 0 l.length) 20 NR NR NR d (a.sub e)
 have h:bn N (l.length:Int) p N (yv lt 20 (l.length+1) l 0 l.length) 20=_:=g
 rw[f,h,fz]
theorem FA {N:Nat} (b:1099000000000≤N) (ps:List ay) (s:ac) (ids:List Int) (e:dm ps≤1048576) (hp:∀ p∈ps,p.Args.length≤1048576) (f:s.Items.length≤1048576) (g:∀ x∈s.Items,x.F.Fields.length≤1048576) (k:ids.length≤1048576) (he:ids.length=ps.length) :
  ik N ps s ids=some (bd s.Items ps ids []):=by
 unfold ik
 have lp:∀ (n i:Nat) (l:List au),i≤ids.length→ids.length - i < n→l.length+dm (ps.drop i)≤1048576→dX N ps s ids n l i=some (bd s.Items (ps.drop i) (ids.drop i) l):=by
  intro n
  induction n with
  | zero=>intro i _ _ h;omega
  | succ n j=>
   intro i l h1 m c
   by_cases d:i < ids.length
   ·have c1:decide ((i:Int) < (ids.length:Int))=true:=decide_eq_true NR
    have a:i < ps.length:=by omega
    rw[gI a] at c
    rw[eU] at c
    have o:=kF ps[i] (aF s.Items ids[i]).1 l
    rw[gI d,gI a,bd]
    simp only[dX,c1,if_true,ah d,ah a,fz,sH b s _ f g,vq b ps[i] _ l (hp _ (hG a)) (show l.length≤2147483648 by omega),wr1 i NR]
    cases (aF s.Items ids[i]).2 with
    | false=>simp
    | true=>
     cases (bw ps[i] (aF s.Items ids[i]).1 l).2 with
     | false=>simp
     | true=>
      simp only[hA,fI,if_false,and_self,if_true]
      exact j (i+1) _ NR NR NR
   ·have c1:decide ((i:Int) < (ids.length:Int))=false:=decide_eq_false NR
    simp only[dX,c1,fI,if_false]
    rw[hz NR,hz NR];rfl
 have:=lp N 0 [] NR NR (by simpa using e)
 simpa using this
theorem CQ {N:Nat} (a:1099000000000≤N) (r:af) (s:ac) (ids:List Int) (b:r.Pats.length≤1048576) (f:dm r.Pats≤1048576) (hp:∀ p∈r.Pats,p.Args.length≤1048576) (c:s.Items.length≤1048576) (d:∀ x∈s.Items,x.F.Fields.length≤1048576) (e:ids.length≤1048576) :
  mE N r s ids=some (bd s.Items (pos r.Pats) ids []):=by
 unfold mE
 rw[sT a r false b,fz,AE]
 by_cases he:ids.length=(pos r.Pats).length
 ·have c1:decide ((ids.length:Int)=((pos r.Pats).length:Int))=true:=decide_eq_true NR
  have h1:=qj r.Pats
  rw[c1]
  simp only[hA,fI,if_false,FA a (pos r.Pats) s ids NR (fun p h=>hp p ((List.mem_filter.1 h).1)) c d e he,fz]
 ·have c1:decide ((ids.length:Int)=((pos r.Pats).length:Int))=false:=decide_eq_false NR
  rw[c1,vP (fun h=>he h.symm)];rfl
theorem BX {N:Nat} (c:1099000000000≤N) (a:cJ) (l:List au) (d:l.length≤4294967296):mZ N a l=some (oh a l):=by
 unfold mZ oh
 rw[GS c l a.S d]
 by_cases b:a.K=2
 ·simp[b]
 ·by_cases h1:a.K=1 <;> simp[h1,b,zv]
theorem or3 {N:Nat} (l:1099000000000≤N) (a b c:Int):gE N [a,b,c]=some (if a=0 then (if b=0 then c else b) else a):=by
 obtain⟨n,rfl⟩:∃ n,N=n+4:=⟨N - 4,NR⟩
 unfold gE
 have f:IntKind.i64.wrap ((0:Int)+1)=1:=by decide
 have g:IntKind.i64.wrap ((1:Int)+1)=2:=by decide
 have h:IntKind.i64.wrap ((2:Int)+1)=3:=by decide
 have i0:idx [a,b,c] 0=some a:=rfl
 have i:idx [a,b,c] 1=some b:=rfl
 have i2:idx [a,b,c] 2=some c:=rfl
 have j:(([a,b,c]:List Int).length:Int)=3:=rfl
 simp only[gn,f,g,h,i0,i,i2,j,fz]
 by_cases d:a=0
 ·by_cases e:b=0
  ·by_cases k:c=0 <;> simp[d,e,k]
  ·simp[d,e]
 ·simp[d]
theorem NE (N:Nat) (a b:ByteArray):fM N a b=some (if slt a b=true then -1 else if (!slt a b && !seq a b)=true then 1 else 0):=by
 unfold fM hP
 simp only[kf,hA,fz,fI,if_false]
 cases slt a b with
 | true=>simp
 | false=>cases seq a b <;> simp
theorem JM {N:Nat} (d:1099000000000≤N) (x y:bN):nZ N x y=some (I2 x y):=by
 unfold nZ lH I2
 simp only[B1,NE,fz,or3 d,cmp]
 congr 1
 by_cases h1:x.K=y.K
 ·by_cases c:x.N=y.N
  ·simp only[h1,c,Int.lt_irrefl,if_false,if_true]
   cases slt x.S y.S with
   | true=>simp
   | false=>cases seq x.S y.S <;> simp
  ·simp only[h1,c,Int.lt_irrefl,if_false,if_true]
   by_cases a:x.N < y.N
   ·simp[a]
   ·have b:y.N < x.N:=by omega
    simp[a,b]
 ·simp only[h1,if_false]
  by_cases a:x.K < y.K
  ·simp[a]
  ·have b:y.K < x.K:=by omega
   simp[a,b]
theorem Ji {N:Nat} (a:1099000000000≤N) (c:f9) (l:List au) (b:l.length≤4294967296):qZ N c l=some (holds c l):=by
 unfold qZ holds
 rw[BX a c.L l b,BX a c.R l b]
 simp only[fz,JM a,iw]
 cases (oh c.L l).2 with
 | false=>simp
 | true=>
  cases (oh c.R l).2 with
  | false=>simp
  | true=>
   by_cases h1:c.Op=1
   ·simp[h1]
   ·by_cases d:c.Op=2
    ·simp[d]
    ·by_cases e:c.Op=3 <;> simp[h1,d,e]
theorem zQ {N:Nat} (a:1099000000000≤N) (cs:List f9) (l:List au) (j:cs.length≤4194304) (d:l.length≤4294967296):lS N cs l=some (cs.all fun c=>holds c l):=by
 unfold lS
 refine lp0 a cs NR (fQ N cs l) (fun t=>some (t.all fun c=>holds c l)) (fun n i x t h1 b k e f g h=>?_) (fun n i h1 b=>?_)
 ·simp only[fQ,f,if_true,e,fz,Ji a x l d,g,h,n0]
  cases holds x l <;> simp
 ·simp only[fQ,b,fI,if_false];rfl
theorem LB {N:Nat} (a:1099000000000≤N) (t:ao) (h:t.Hits.length≤4294967296):pj N t=some (wX t):=by
 unfold pj wX
 refine lp0 a t.Hits h (gL N t) (fun l=>some (l.all fun n=>decide (n=0))) (fun n i x l g1 g2 g3 g4 g5 g6 g7=>?_) (fun n i g1 g2=>?_)
 ·simp only[gL,g5,if_true,g4,fz,g6,g7,n0]
  by_cases c:x=0 <;> simp[c]
 ·simp only[gL,g2,fI,if_false];rfl
structure SzP (r:af) (xs:List ag):Prop where
 pl:r.Pats.length≤1048576
 sa:dm r.Pats≤1048576
 pa:∀ p∈r.Pats,p.Args.length≤1048576
 cl:r.Conds.length≤1048576
 sl:xs.length≤1048576
 fl:∀ x∈xs,x.F.Fields.length≤1048576
theorem SzP.binds {r:af} {xs:List ag} (h:SzP r xs) (ids:List Int):(bd xs (pos r.Pats) ids []).1.length≤1048576:=by
 have h1:=ut (xs:=xs) (pos r.Pats) ids []
 have a:=qj r.Pats
 have b:=h.sa
 simp at h1
 omega
theorem Ci {xs:List ag} {i:Int} {r:af} {t:ao} {b:Bool} (h:((bd xs (pos r.Pats) t.Ids []).2 && (wX t && r.Conds.all fun c=>holds c (bd xs (pos r.Pats) t.Ids []).1))=b):sB xs i r t=if b=true then [⟨i,t.Ids,(bd xs (pos r.Pats) t.Ids []).1⟩] else []:=by
 unfold sB;rw[h]
theorem IA {N:Nat} (e:1099000000000≤N) (s:ac) (s1:List a7) (i:Nat) (K:List a7→Int→Option (List a7)) (r:af) (L:aq) (d:SzP r s.Items) (p:L.Toks.length≤1048576) (q:∀ t∈L.Toks,t.Ids.length≤1048576∧t.Hits.length≤1048576) :
  fA N s s1 (i:Int) K r L N [] 0=(app s1 (uj (oF s.Items (i:Int) r L.Toks))).bind fun x=>K x (IntKind.i64.wrap ((i:Int)+1)):=by
 refine (lp' e L.Toks NR (fun n (u:List a7) j=>fA N s s1 (i:Int) K r L n u j) (fun t u=>(app s1 (uj (u++oF s.Items (i:Int) r t))).bind fun x=>K x (IntKind.i64.wrap ((i:Int)+1))) (fun u t=>u.length+t.length≤1048576∧∀ x∈u,x.Ids.length≤1048576) [] ⟨by simpa using p,NS⟩ (fun n u j t l g1 g2 g3 g4 g5 g6 g o=>?_) (fun n u j g1 g2 g=>?_)).trans NS
 ·obtain⟨k,i2⟩:=g
  simp only[gh] at k
  obtain⟨t1,t2⟩:=q t g2
  have w:=d.binds t.Ids
  have z:=d.cl
  have es:oF s.Items (i:Int) r (t :: l)=sB s.Items (i:Int) r t++oF s.Items (i:Int) r l:=rfl
  have skip:((bd s.Items (pos r.Pats) t.Ids []).2 && (wX t && r.Conds.all fun c=>holds c (bd s.Items (pos r.Pats) t.Ids []).1))=false→fA N s s1 (i:Int) K r L n u ((j+1:Nat):Int)=(app s1 (uj (u++oF s.Items (i:Int) r (t :: l)))).bind fun x=>K x (IntKind.i64.wrap ((i:Int)+1)):=fun h=>by
   rw[o u ⟨NR,i2⟩,es,Ci h];simp
  simp only[fA,g5,if_true,g4,fz,CQ e r s t.Ids d.pl d.sa d.pa d.sl d.fl t1]
  cases f:(bd s.Items (pos r.Pats) t.Ids []).2 with
  | false=>
   simp only[fI,if_false,fz,g6]
   exact skip (by rw[f];rfl)
  | true=>
   simp only[if_true,LB e t NR,fz]
   cases m:wX t with
   | false=>
    simp only[fI,if_false,fz,g6]
    exact skip (by rw[f,m];rfl)
   | true=>
    simp only[if_true,zQ e r.Conds _ (show r.Conds.length≤4194304 by omega) (show (bd s.Items (pos r.Pats) t.Ids []).1.length≤4294967296 by omega),fz]
    cases hH:(r.Conds.all fun c=>holds c (bd s.Items (pos r.Pats) t.Ids []).1) with
    | false=>
     simp only[fI,if_false,g6]
     exact skip (by rw[f,m,hH];rfl)
    | true=>
     simp only[if_true,bh,ft (show t.Ids.length≤4294967296 by omega),fz,bO (show u.length+[(⟨(i:Int),t.Ids,(bd s.Items (pos r.Pats) t.Ids []).1⟩:a7)].length≤4294967296 by simp;omega),g6]
     rw[o _ ⟨by simp;omega,fun x a=>by
      rcases gb.1 a with a | a
      ·exact i2 x a
      ·simp only[hY] at a;rw[a];exact t1⟩,es,Ci (b:=true) (by rw[f,m,hH];rfl)]
     simp
 ·obtain⟨k,i2⟩:=g
  simp only[gk,Nat.add_zero] at k
  have v:th (ep N) mh u:=fun x a y A=>HB NR x y (i2 x a)
  simp only[fA,g2,fI,if_false,LG (N:=N) u v NR NR,fz]
  simp[oF,uj]
theorem Im:uj []=[]:=by
 have:=(AC []).2.length_eq
 exact qa.1 (by simpa using this)
theorem I5 (l:List a7):(uj l).length=l.length:=(AC l).2.length_eq
theorem FU {w:aP} (h:w.Levels.length=0):pR w=[]:=by
 unfold pR
 rw[qa.1 h];rfl
def FM:List aP→Nat
 | []=>0
 | w :: ws=>(pR w).length+FM ws
def oB (i:Nat) (m:a7):a7:=⟨(i:Int),m.Ids,m.Binds⟩
def dL (xs:List ag):Nat→List af→List a7
 | _,[]=>[]
 | i,r :: t=>(iU r xs).map (oB i)++dL xs (i+1) t
theorem CK {r:af} {s:ac} (a:yO r s):(iU r s.Items).length≤1073741824:=by
 have h1:=tB (vd r s.Items) s.Items (r.Pats.take (ak r.Pats)) [] []
 have b:=et r.Pats
 rw[my,Nat.min_eq_left b] at h1
 exact j4 h1 a.nm
theorem wP {xs:List ag} {M:Nat}:∀ (t:List af) (i:Nat),(∀ r∈t,(iU r xs).length≤M)→(dL xs i t).length≤t.length*M
 | [],i,_=>by simp[dL]
 | r :: t,i,h=>by
  have h1:=wP t (i+1) fun y a=>h y (by simp[a])
  have b:=h r NS
  unfold dL
  rw[gi,List.length_map,gh,hB];omega
theorem FH (ps:List ay) (xs:List ag) (l:List au):((fj xs (neg ps) l).all fun n=>decide (n=0)) = !jP ps xs l:=by
 unfold fj neg jP
 induction ps with
 | nil=>rfl
 | cons p ps a=>
  rw[List.filter_cons,List.any_cons]
  cases hp:p.Not with
  | false=>simp only[fI,if_false,Bool.false_and,Bool.false_or];exact a
  | true=>
   simp only[if_true,List.map_cons,n0,hV,Bool.not_or,a]
   congr 1
   have h:=BH p l xs
   rw[← h]
   by_cases c:sL p l xs=0
   ·simp[c]
   ·rw[decide_eq_false NR,decide_eq_true NR];rfl
theorem wR {xs:List ag} {ps:List ay} {r:List Int} (h:r.length=ps.length):okB xs ps r=bd xs ps r []:=by
 unfold okB
 rw[List.take_of_length_le NR]
theorem Jt {a b:a7} (h:mh a b=true):a≠b:=fun e=>by
 subst e
 have:=vO.irr a
 rw[h] at this
 cases this
theorem HV {xs:List ag} {i:Nat} {r:af} {w:aP} (hu:p9 xs) (hp:iK r.Pats=true) (K:w.Levels.length=(pos r.Pats).length) (hw:Cs xs r w):uj (oF xs (i:Int) r (pR w))=(iU r xs).map (oB i):=by
 have v:pos r.Pats=r.Pats.take (ak r.Pats):=sV hp
 have M:1≤(pos r.Pats).length:=by
  have h1:=hp
  unfold iK at h1
  simp only[gm,decide_eq_true_eq] at h1
  have d:(pos r.Pats).length=ak r.Pats:=pq r.Pats
  omega
 have C:w.Levels.length - 1 < w.Levels.length:=by omega
 obtain⟨L,y⟩:∃ L,w.Levels[w.Levels.length - 1]?=some L:=⟨_,gj C⟩
 have D:pR w=L.Toks:=by unfold pR;rw[y]
 obtain⟨l,E⟩:=hw _ L y
 rw[show w.Levels.length - 1+1=(pos r.Pats).length by omega] at l
 rw[D]
 have F:=zy (r:=r) hu
 have z:((iU r xs).map (oB i)).Pairwise fun a b=>mh a b=true:=by
  rw[List.pairwise_map]
  exact F.imp_of_mem fun {a b} g f n=>by
   have h1:=(pN hu g).1
   have d:=(pN hu f).1
   unfold mh oB at *
   rw[if_pos NR] at n
   simpa using n
 have A:∀ t∈L.Toks,t.Ids.length=(pos r.Pats).length∧(bd xs (pos r.Pats) t.Ids []).2=true∧wX t = !jP r.Pats xs (bd xs (pos r.Pats) t.Ids []).1:=fun t h=>by
  obtain⟨h1,d⟩:=Has.len l t h
  have e:=wR (xs:=xs) h1
  unfold okR at d
  rw[e] at d
  refine⟨h1,d,?_⟩
  have k:=E t h
  unfold ke at k
  rw[if_pos NR,e] at k
  unfold wX
  rw[k]
  exact FH _ _ _
 symm
 refine Is ?_ ?_
 ·exact z.imp_of_mem fun {a b} g f n=>by
   exact vO.asymm a b n
 ·refine (List.perm_ext_iff_of_nodup (z.imp fun h=>Jt h) ?_).2 fun x=>?_
  ·unfold oF List.Nodup
   rw[List.pairwise_flatMap]
   refine⟨fun t _=>?_,?_⟩
   ·unfold sB
    split
    ·exact List.pairwise_singleton _ _
    ·exact List.Pairwise.nil
   ·have q:=l.nd
    unfold gu List.Nodup at q
    rw[List.pairwise_map] at q
    exact q.imp fun {t u} G a g b f e=>G (by
     unfold sB at g f
     split at g
     ·split at f
      ·simp only[hY] at g f
       rw[g,f] at e
       exact (a7.mk.inj e).2.1
      ·cases f
     ·cases g)
  ·unfold oF
   rw[hC,List.mem_flatMap]
   constructor
   ·rintro⟨m,hm,rfl⟩
    obtain⟨h1,d,k⟩:=pN hu hm
    rw[← v] at d
    have hlen:=yw _ _ _ _ d
    have H:okR xs (pos r.Pats) m.Ids=true:=by unfold okR;rw[wR hlen,d]
    obtain⟨t,o,B⟩:=hC.1 ((l.iff m.Ids).2 ⟨hlen,H⟩)
    refine⟨t,o,?_⟩
    obtain⟨I,s,p⟩:=A t o
    rw[B,d] at p
    unfold sB
    rw[B,d,p]
    simp only[hV]
    rw[if_pos k]
    simp[oB]
   ·rintro⟨t,o,j⟩
    obtain⟨I,s,p⟩:=A t o
    unfold sB at j
    rw[s,p,hV] at j
    split at j
    ·rename_i c
     simp only[hY] at j
     subst j
     have f:bd xs (r.Pats.take (ak r.Pats)) t.Ids []=((bd xs (pos r.Pats) t.Ids []).1,true):=by rw[← v,← s]
     exact⟨_,Af f c,rfl⟩
    ·cases j
theorem EN {xs:List ag} (hu:p9 xs):∀ (a:List af) (ws:List aP) (i:Nat),a.length=ws.length→(∀ r∈a,iY r=true)→(∀ (k:Nat) (r:af) (w:aP),a[k]?=some r→ws[k]?=some w→w.Levels.length=(pos r.Pats).length∧Cs xs r w)→CY xs i a ws=dL xs i a
 | [],[],i,_,_,_=>rfl
 | [],w :: ws,i,h,_,_=>by simp at h
 | r :: a,[],i,h,_,_=>by simp at h
 | r :: a,w :: ws,i,h,d,hw=>by
  have e:=EN hu a ws (i+1) (by simpa using h) (fun q f=>d q (by simp[f])) fun k q v h1 b=>hw (k+1) q v (by simpa using h1) (by simpa using b)
  obtain⟨h1,b⟩:=hw 0 r w rfl rfl
  have c:=d r NS
  have hp:iK r.Pats=true:=by
   unfold iY at c
   simp only[gm] at c
   exact c.2.2.1
  rw[CY,dL,e,HV hu hp h1 b]
theorem sZ {r:af} (h:iY r=true):iK r.Pats=true:=by
 unfold iY at h
 simp only[gm] at h
 exact h.2.2.1
theorem DE {r:af} (h:iY r=true):pos r.Pats=r.Pats.take (ak r.Pats):=sV (sZ h)
theorem yx {B:Nat}:∀ {l:List ay},(∀ p∈l,p.Args.length≤B)→dm l≤l.length*B
 | [],_=>by simp[dm]
 | p :: t,h=>by
  have h1:=yx (l:=t) fun q a=>h q (by simp[a])
  have b:=h p NS
  rw[eU,gh,hB];omega
theorem tN {c:Nat}:∀ (l:List ay) (i:Nat),iq c i l=true→∀ p∈l,tV p=true
 | [],_,_,p,hp=>by cases hp
 | x :: t,i,h,p,hp=>by
  unfold iq at h
  simp only[gm] at h
  rcases List.mem_cons.1 hp with rfl | hp
  ·exact h.1
  ·exact tN t _ h.2.2 p hp
theorem DP {r:af} {s:ac} (a:iY r=true) (b:gl s=true):yO r s:=by
 have hp:=sZ a
 unfold iY at a
 simp only[gm,decide_eq_true_eq] at a
 have d:=a.2.2.2.1.2
 unfold iK at hp
 simp only[gm,decide_eq_true_eq] at hp
 obtain⟨⟨_,e⟩,⟨_,c⟩,p3⟩:=hp
 have pa:∀ p∈r.Pats,p.Args.length≤5:=fun p hp=>by
  have:=tN _ _ p3 p hp
  unfold tV at this
  simp only[gm,decide_eq_true_eq] at this
  omega
 have sa:=yx pa
 unfold gl at b
 simp only[gm,decide_eq_true_eq] at b
 have xl:=b.2.1
 refine⟨NR,fun p hp=>by have:=pa p hp;omega,NR,NR,NR,?_⟩
 exact j4 (Nat.pow_le_pow_left xl _) (j4 (O1 NR c) (by decide))
theorem A2 {r:af} {s:ac} (b:iY r=true) (a:gl s=true):(iU r s.Items).length≤64000:=by
 have hp:=sZ b
 unfold iK at hp
 simp only[gm,decide_eq_true_eq] at hp
 obtain⟨_,⟨_,c⟩,_⟩:=hp
 unfold gl at a
 simp only[gm,decide_eq_true_eq] at a
 have xl:=a.2.1
 have h1:=tB (vd r s.Items) s.Items (r.Pats.take (ak r.Pats)) [] []
 rw[my,Nat.min_eq_left (et r.Pats)] at h1
 exact j4 h1 (j4 (Nat.pow_le_pow_left xl _) (j4 (O1 NR c) (by decide)))
def rJ (d:bv) (s:ac):List a7:=if (iP d && gl s)=true then dL s.Items 0 d.Rules else []
theorem vZ {d:bv} (h:iP d=true):d.Rules.length≤12:=by
 unfold iP at h
 simp only[gm,decide_eq_true_eq] at h
 exact h.2.1.2
theorem Ip {N:Nat} (o:1099000000000≤N) (d:bv) (m:aN) (s:ac) (p:∀ r∈d.Rules,SzP r s.Items) (C:d.Rules.length≤1048576) (hm:m.Rules.length=d.Rules.length) (hw:∀ w∈m.Rules,w.Levels.length≤1048576∧(pR w).length≤1048576∧∀ t∈pR w,t.Ids.length≤1048576∧t.Hits.length≤1048576) :
  ∀ (n i:Nat) (u:List a7),d.Rules.length - i < n→i≤d.Rules.length→u.length+FM (m.Rules.drop i)≤4294967296→io N d m s n u (i:Int)=some (u++CY s.Items i (d.Rules.drop i) (m.Rules.drop i)):=by
 intro n
 induction n with
 | zero=>intro i u h;omega
 | succ n b=>
  intro i u D E hu
  rw[io]
  by_cases c:i < d.Rules.length
  ·have c1:decide ((i:Int) < (d.Rules.length:Int))=true:=decide_eq_true NR
   have c2:i < m.Rules.length:=by omega
   have d1:decide ((i:Int) < (m.Rules.length:Int))=true:=decide_eq_true NR
   have d2:decide ((m.Rules.length:Int)≤(i:Int))=false:=decide_eq_false NR
   rw[gI c,gI c2,CY]
   rw[gI c2,FM] at hu
   simp only[c1,d1,d2,if_true,fz,ah c,ah c2,fI,if_false]
   obtain⟨F,f,g⟩:=hw _ (hG c2)
   have q:=p _ (hG c)
   by_cases v:m.Rules[i].Levels.length=0
   ·have a:decide ((m.Rules[i].Levels.length:Int)=0)=true:=decide_eq_true NR
    have j:=FU v
    rw[j] at hu
    simp only[a,if_true,wr1 i NR,j]
    have:=b (i+1) u NR NR (by simpa using hu)
    have e:uj (oF s.Items (i:Int) d.Rules[i] [])=[]:=Im
    rw[e,ha]
    exact this
   ·have a:decide ((m.Rules[i].Levels.length:Int)=0)=false:=decide_eq_false NR
    have l:m.Rules[i].Levels.length - 1 < m.Rules[i].Levels.length:=by omega
    have y:pR m.Rules[i]=m.Rules[i].Levels[m.Rules[i].Levels.length - 1].Toks:=by unfold pR;rw[gj l]
    simp only[a,fI,if_false,wS1 (x:=m.Rules[i].Levels.length) NR NR,ah l,fz]
    rw[y] at hu g f ⊢
    have G:=Bv (xs:=s.Items) (i:=(i:Int)) (r:=d.Rules[i]) m.Rules[i].Levels[m.Rules[i].Levels.length - 1].Toks
    have H:=I5 (oF s.Items (i:Int) d.Rules[i] m.Rules[i].Levels[m.Rules[i].Levels.length - 1].Toks)
    have z:app u (uj (oF s.Items (i:Int) d.Rules[i] m.Rules[i].Levels[m.Rules[i].Levels.length - 1].Toks))=some (u++uj (oF s.Items (i:Int) d.Rules[i] m.Rules[i].Levels[m.Rules[i].Levels.length - 1].Toks)):=bO NR
    have:=b (i+1) (u++uj (oF s.Items (i:Int) d.Rules[i] m.Rules[i].Levels[m.Rules[i].Levels.length - 1].Toks)) NR NR (by rw[gi];omega)
    rw[IA o s u i _ d.Rules[i] _ q f g,z,fz,wr1 i NR,← List.append_assoc]
    exact this
  ·have c1:decide ((i:Int) < (d.Rules.length:Int))=false:=decide_eq_false NR
   have A:d.Rules.drop i=[]:=hz NR
   have B:∀ (k:Nat) (ws:List aP),CY s.Items k [] ws=[]:=fun k ws=>by cases ws <;> rfl
   rw[A,B]
   simp only[c1,fI,if_false,fz,List.append_nil]
theorem M3 {d:bv} {s:ac} (b:rb d) (a:mA s):∀ r∈d.Rules,SzP r s.Items:=fun r c=>by
 obtain⟨_,⟨g0,g1⟩,⟨g3,_⟩,_,g2,_⟩:=b.2.2 r c
 exact⟨g0,g2,fun p hp=>(g1 p hp).2.1,g3,a.1,fun x e=>(a.2 x e).2.1⟩
theorem JJ {N:Nat} (f:1099000000000≤N) {d:bv} {m:aN} {s:ac} (e:iP d=true) (g:rb d) (i:mA s) {j:Nat} (k:j≤40) (c:n8 d (bS d) j m):n9 N d m s=some (CY s.Items 0 d.Rules m.Rules):=by
 have h1:n8 d ⟨[],[]⟩ j ⟨[],m.Rules⟩:=⟨rfl,c.lr,NS,c.rows⟩
 have l:=(Ey e NS h1).rows
 have u:=vZ e
 have hw:∀ w∈m.Rules,w.Levels.length≤1048576∧(pR w).length≤400000∧∀ t∈pR w,t.Ids.length≤1048576∧t.Hits.length≤1048576:=fun w hw=>by
  obtain⟨a,b⟩:=l w hw
  refine⟨NR,?_⟩
  unfold pR
  split
  ·rename_i L n
   obtain⟨c1,c2⟩:=b _ L n
   have hp:100 ^ (w.Levels.length - 1)≤100 ^ 2:=O1 NR NR
   have:j*100 ^ (w.Levels.length - 1)≤40*100 ^ 2:=Nat.mul_le_mul k hp
   refine⟨NR,fun t o=>?_⟩
   have:=c2 t o
   exact⟨NR,NR⟩
  ·simp
 have p:∀ (ws:List aP),(∀ w∈ws,(pR w).length≤400000)→FM ws≤ws.length*400000:=by
  intro ws
  induction ws with
  | nil=>intro _;simp[FM]
  | cons w ws q=>
   intro h
   have a:=h w NS
   have b:=q fun v r=>h v (by simp[r])
   rw[FM,gh,hB];omega
 have x:=p m.Rules fun w h=>(hw w h).2.1
 have y:=c.lr
 have:=Ip f d m s (M3 g i) NR c.lr (fun w h=>⟨(hw w h).1,by have:=(hw w h).2.1;omega,(hw w h).2.2⟩) N 0 [] NR NR (by simp;omega)
 unfold n9
 simpa using this
theorem Hg {N:Nat} (f:1099000000000≤N) {d:bv} {m:aN} {s:ac} (b:iP d=true) (g:rb d) (h:mA s) (hu:p9 s.Items) {j:Nat} (i:j≤40) (a:n8 d (bS d) j m) (l:sW d (bS d) s.Items m):n9 N d m s=some (dL s.Items 0 d.Rules):=by
 rw[JJ f b g h i a,EN hu d.Rules m.Rules 0 a.lr.symm (ng b) fun k r w c e=>⟨(a.rows k r w c e).1,l.rows k r w c e⟩]
theorem Cq {N:Nat} (e:1099000000000≤N) (d:bv) (s:ac) (c:iP d=true) (f:rb d) (l:s.Items.length≤40) (g:∀ x∈s.Items,x.F.Fields.length≤1048576):∀ (rest done:List ag) (k:Nat) (m:aN),rest.length < k→s.Items=done++rest→n8 d (bS d) done.length m →
  iu N d s (bS d) k m.Alphas m.Rules (done.length:Int)=some (vI d (bS d) s.Next done rest m)
 | [],done,k,m,hk,a,h=>by
  obtain⟨k,rfl⟩:∃ j,k=j+1:=⟨k - 1,by simp at hk;omega⟩
  have c1:decide ((done.length:Int) < (s.Items.length:Int))=false:=decide_eq_false (by rw[a];simp)
  simp only[iu,c1,fI,if_false,vI]
 | x :: t,done,k,m,hk,a,h=>by
  obtain⟨k,rfl⟩:∃ j,k=j+1:=⟨k - 1,NR⟩
  simp only[gh] at hk
  have q:s.Items.length=done.length+(t.length+1):=by rw[a];simp
  have c1:decide ((done.length:Int) < (s.Items.length:Int))=true:=decide_eq_true NR
  have n:idx s.Items (done.length:Int)=some x:=by rw[a];exact eo _ _ _
  have o:ssl s.Items 0 ((done.length+1:Nat):Int)=some (done++[x]):=by
   rw[Cv NR,a]
   congr 1
   rw[show done++x :: t=(done++[x])++t by simp,List.take_left' NS]
  have ok:=uU (s:=⟨done++[x],s.Next⟩) (id:=x.Id) c f (by simp;omega) (fun y b=>g y (by rw[a];simp at b ⊢;rcases b with b | b <;> simp[b])) NR h
  have p:(bS d).Chains.length=d.Rules.length:=(ri (mT c)).2.1.len
  have h1:=t7 (s:=⟨done++[x],s.Next⟩) (id:=x.Id) NR (by simp;omega) p h
  have i:=Cq e d s c f l g t (done++[x]) k (yL d (bS d) m ⟨done++[x],s.Next⟩ x.Id) NR (by rw[a];simp) (by simpa using h1)
  simp only[gi,gh,gk,ho] at i
  simp only[iu,c1,if_true,n,o,fz,wr1 done.length NR,JX e d (bS d) _ _ x.Id ok.ok]
  exact i
theorem AD {d:bv} {m:aN} {j:Nat} (b:iP d=true) (e:j≤40) (a:n8 d (bS d) j m):CG m:=by
 obtain⟨⟨f,z2⟩,z3,z4⟩:=tc (mT b)
 have h1:n8 d ⟨[],[]⟩ j ⟨[],m.Rules⟩:=⟨rfl,a.lr,NS,a.rows⟩
 have c:=(Ey b NS h1).sz e
 exact⟨⟨by have:=a.la;omega,fun i hm=>by have:=a.al i hm;omega⟩,c.2.1,c.2.2⟩
theorem IM {N:Nat} (a:1099000000000≤N) {d:bv} {m:aN} {s:ac} (l:rb d) (n:mA s) (b:iP d=true) (e:gl s=true) {j:Nat} (q:j≤40) (o:n8 d (bS d) j m) (r:sW d (bS d) s.Items m):mF N d m s=some true:=by
 have f:s.Items.length≤40:=by
  unfold gl at e
  simp only[gm,decide_eq_true_eq] at e
  exact e.2.1
 have g:=mT b
 have h:=(ri g).2.1
 obtain⟨⟨t,z2⟩,z3,z4⟩:=tc g
 have i:=yz h
 have k:=Cq a d s b l f (fun x p=>(n.2 x p).2.1) s.Items [] N (l5 (bS d)) NR rfl i
 simp only[gk,Int.natCast_zero] at k
 have hinv:=Gp (nx:=s.Next) h.len s.Items [] (l5 (bS d)) (by simpa using f) i
 have hH:=MC (nx:=s.Next) h s.Items [] (l5 (bS d)) (by simpa using f) (by simpa using tX e) i Kc
 simp only[ha,gk,ho] at hinv hH
 have u:=GH a (bS d) t z3 (fun c v=>(z4 c v).1)
 generalize p:vI d (bS d) s.Next [] s.Items (l5 (bS d))=x at k hinv hH
 have w:iu N d s (bS d) N (l5 (bS d)).Alphas (l5 (bS d)).Rules 0=some x:=k
 unfold mF
 simp only[I1 a d l,b,fz,if_true,xy a s n,e]
 unfold tA
 simp only[EC a d g,fz,u,w,Ga a m x (AD b q o) (AD b f hinv),IP o hinv r hH]
theorem IJ {N:Nat} (d:1099000000000≤N) (x y:List au) (f:x.length≤4294967296):dQ N x y=some (decide (x=y)):=by
 unfold dQ
 by_cases c:x.length=y.length
 ·rw[if_neg (by simp;omega)]
  refine (qn (cm N x y) x y c NR (fun a b=>some (decide (a=b))) (fun a _ b _=>rfl) (fun k i=>by simp only[cm,Ay,fz]) N 0 NR NR).trans ?_
  simp
 ·rw[if_pos (by simp;omega)]
  have : ¬ x=y:=fun e=>c (by rw[e])
  simp[this]
theorem Fk (x y:a7):decide (x=y)=(rB x y && decide (x.Binds=y.Binds)):=by
 obtain⟨a,b,c⟩:=x
 obtain⟨d,e,f⟩:=y
 simp only[rB,a7.mk.injEq,← Bool.decide_and,and_assoc]
def K9 (l:List a7):Prop:=l.length≤1048576∧∀ m∈l,m.Ids.length≤1048576∧m.Binds.length≤1048576
theorem Fy {N:Nat} (f:1099000000000≤N) (x y:List a7) (d:K9 x):nY N x y=some (decide (x=y)):=by
 have h:=d.1
 have key:bg N x y (fN N)=some (decide (x=y)):=by
  unfold bg
  by_cases c:x.length=y.length
  ·rw[if_neg (by simp;omega)]
   refine (qn (aS N x y (fN N)) x y c NR (fN N) (fun a g b _=>?_) (fun k i=>rfl) N 0 NR NR).trans ?_
   ·obtain⟨h1,j⟩:=d.2 a g
    unfold fN
    rw[HR NR a b h1,fz,Fk]
    cases rB a b with
    | false=>rfl
    | true=>simp only[if_true,IJ f a.Binds b.Binds NR,fz,hV]
   ·simp
  ·rw[if_pos (by simp;omega)]
   have : ¬ x=y:=fun e=>c (by rw[e])
   simp[this]
 unfold nY
 rw[key,fz]
theorem Mz {P:a7→Prop} {xs:List ag}:∀ (t:List af) (i:Nat),(∀ r∈t,∀ m∈iU r xs,∀ j:Nat,P (oB j m))→∀ m∈dL xs i t,P m
 | [],i,_,m,hm=>by simp[dL] at hm
 | r :: t,i,h,m,hm=>by
  unfold dL at hm
  rcases gb.1 hm with hm | hm
  ·obtain⟨x,a,rfl⟩:=hC.1 hm
   exact h r NS x a i
  ·exact Mz t (i+1) (fun y b=>h y (by simp[b])) m hm
theorem HT {d:bv} {s:ac} (a:iP d=true) (b:gl s=true):K9 (dL s.Items 0 d.Rules):=by
 have g:=vZ a
 have c:=ng a
 have i:=wP (xs:=s.Items) (M:=64000) d.Rules 0 fun r h=>A2 (c r h) b
 have hm:=Mz (xs:=s.Items) (P:=fun m=>m.Ids.length≤1048576∧m.Binds.length≤1048576) d.Rules 0 fun r h m hm j=>by
  have e:=DP (c r h) b
  have f:=BG (JH r s.Items) s.Items (r.Pats.take (ak r.Pats)) [] [] m hm
  have k:=rO (ak r.Pats) r.Pats
  have l:=e.sa
  have n:=e.pl
  rw[my] at f
  simp only[gk] at f
  show m.Ids.length≤1048576∧m.Binds.length≤1048576
  omega
 exact⟨NR,hm⟩
theorem Ff {N:Nat} (a:1099000000000≤N) (r:af) (s:ac) (l:List au) (d:r.Pats.length≤1048576) (hp:∀ p∈r.Pats,p.Args.length≤1048576) (b:s.Items.length≤1048576) (c:l.length≤2147483648):o1 N r s l=some (jP r.Pats s.Items l):=by
 unfold o1
 refine lp0 a r.Pats NR (fL N r s l) (fun t=>some (jP t s.Items l)) (fun n i x t g1 g2 g3 g4 g5 g6 g7=>?_) (fun n i g1 g2=>?_)
 ·simp only[fL,g5,if_true,g4,fz,Ha a x s l (hp x g2) b c,BH,g6,g7,sf]
  unfold jP
  rw[List.any_cons]
  cases (x.Not && s.Items.any fun y=>(bw x y.F l).2) <;> simp
 ·simp only[fL,g2,fI,if_false];rfl
theorem Lt (r:af) (s:ac) (a:yO r s) (z:s.Items.length ^ (pos r.Pats).length≤1073741824):∀ (k N:Nat) (out:List a7) (ids:List Int) (l:List au),1099000000001+k≤N→ids.length+k=(pos r.Pats).length→out.length+s.Items.length ^ k≤4294967296 →
  l.length+dm ((pos r.Pats).drop ids.length)≤1048576→fX N out r s ids l=some (out++lv (yA r s.Items) s.Items ((pos r.Pats).drop ids.length) ids l):=by
 have A:=a.pl
 have B:(pos r.Pats).length≤r.Pats.length:=List.length_filter_le _ _
 intro k
 induction k with
 | zero=>
  intro N out ids l j hk b d
  obtain⟨N,rfl⟩:∃ M,N=M+1:=⟨N - 1,NR⟩
  have c1:decide ((ids.length:Int)=((pos r.Pats).length:Int))=true:=decide_eq_true NR
  have m:(pos r.Pats).drop ids.length=[]:=hz NR
  rw[m]
  simp only[fX,sT (show 1099000000000≤N by omega) r false a.pl,AE,fz,c1,if_true,Ff (show 1099000000000≤N by omega) r s l a.pl a.pa a.xl NR,zQ (show 1099000000000≤N by omega) r.Conds l (by have:=a.cl;omega) NR,sf,lv,yA,bh,bt]
  cases (!jP r.Pats s.Items l && r.Conds.all fun c=>holds c l) with
  | true=>
   simp only[if_true,ft (show ids.length≤4294967296 by omega),ft (show l.length≤4294967296 by omega),fz,bO (show out.length+[(⟨0,ids,l⟩:a7)].length≤4294967296 by simp at b ⊢;omega)]
  | false=>simp
 | succ k o=>
  intro N out ids l j hk b d
  obtain⟨N,rfl⟩:∃ M,N=M+1:=⟨N - 1,NR⟩
  have c1:decide ((ids.length:Int)=((pos r.Pats).length:Int))=false:=decide_eq_false NR
  have e:ids.length < (pos r.Pats).length:=by omega
  have p:=gI e
  rw[p] at d ⊢
  rw[eU] at d
  have q:=a.pa _ (List.mem_filter.1 (hG e)).1
  simp only[fX,sT (show 1099000000000≤N by omega) r false a.pl,AE,fz,c1,fI,if_false,lv]
  have v:s.Items.length ^ (k+1)=s.Items.length*s.Items.length ^ k:=by rw[Nat.pow_succ,Nat.mul_comm]
  rw[v] at b
  have C:=a.xl
  refine lp' (show 1099000000000≤N by omega) s.Items NR (fun n (u:List a7) i=>eP N r s ids l (fX N) (pos r.Pats) n u i) (fun t u=>some (u++t.flatMap fun x=>if (bw (pos r.Pats)[ids.length] x.F l).2=true then lv (yA r s.Items) s.Items ((pos r.Pats).drop (ids.length+1)) (ids++[x.Id]) (bw (pos r.Pats)[ids.length] x.F l).1 else []))
   (fun u t=>u.length+t.length*s.Items.length ^ k≤4294967296) out b (fun n u i x t g1 g2 g3 g4 g5 g6 f g=>?_) (fun n u i g1 g2 f=>?_)
  ·rw[gh,hB] at f
   have D:=kF (pos r.Pats)[ids.length] x.F l
   simp only[eP,g5,if_true,ah e,g4,fz,vq (show 1099000000000≤N by omega) _ x.F l q NR,List.flatMap_cons,g6]
   cases hm:(bw (pos r.Pats)[ids.length] x.F l).2 with
   | true=>
    have w:=tB (vd r s.Items) s.Items ((pos r.Pats).drop (ids.length+1)) (ids++[x.Id]) (bw (pos r.Pats)[ids.length] x.F l).1
    have y:((pos r.Pats).drop (ids.length+1)).length=k:=by rw[List.length_drop];omega
    rw[y] at w
    have h:(ids++[x.Id]).length=ids.length+1:=by simp
    have:=o N u (ids++[x.Id]) (bw (pos r.Pats)[ids.length] x.F l).1 NR NR NR (by rw[h];omega)
    rw[h] at this
    simp only[if_true,bh,ft (show ids.length≤4294967296 by omega),bO (show ids.length+[x.Id].length≤4294967296 by simp;omega),fz,this,mH,g6]
    rw[g _ (by rw[gi];omega),List.append_assoc]
   | false=>
    simp only[fI,if_false,ha]
    exact g u NR
  ·simp only[eP,g2,fI,if_false];simp
theorem No {N:Nat} (d:1099400000000≤N) (r:af) (s:ac) (a:yO r s) (hp:pos r.Pats=r.Pats.take (ak r.Pats)):lC N r s=some (iU r s.Items):=by
 unfold lC iU
 have e:=et r.Pats
 have h1:=rO (ak r.Pats) r.Pats
 have f:=a.pl
 have g:=a.sa
 have c:=a.nm
 have b:(pos r.Pats).length=ak r.Pats:=by rw[hp,my];omega
 have:=Lt r s a (by rw[b];exact c) (ak r.Pats) N [] [] [] NR (by simp[b]) (by simp;omega) (by rw[hp];simp;omega)
 rw[this,hp];simp
theorem ML {N:Nat} (e:1099400000000≤N) (d:bv) (s:ac) (v:d.Rules.length≤1048576) (f:∀ r∈d.Rules,yO r s∧pos r.Pats=r.Pats.take (ak r.Pats)) (M:Nat) (g:∀ r∈d.Rules,(iU r s.Items).length≤M) (j:d.Rules.length*M≤4294967296):rc N d s=some (dL s.Items 0 d.Rules):=by
 unfold rc
 have lp:∀ (n i:Nat) (out:List a7),i≤d.Rules.length→d.Rules.length - i < n→out.length+(d.Rules.length - i)*M≤4294967296→gC N d s n out i=some (out++dL s.Items i (d.Rules.drop i)):=by
  intro n
  induction n with
  | zero=>intro i _ _ h;omega
  | succ n l=>
   intro i out w y o
   by_cases a:i < d.Rules.length
   ·have c1:decide ((i:Int) < (d.Rules.length:Int))=true:=decide_eq_true NR
    obtain⟨c,hp⟩:=f _ (hG a)
    have hm:=g _ (hG a)
    have z:=CK c
    rw[gI a,dL]
    simp only[gC,c1,if_true,ah a,fz,No e _ s c hp]
    have p:(d.Rules.length - i)*M=M+(d.Rules.length - (i+1))*M:=by
     rw[show d.Rules.length - i=(d.Rules.length - (i+1))+1 by omega,hB];omega
    rw[p] at o
    refine (lp' (show 1099000000000≤N by omega) (iU d.Rules[i] s.Items) NR (fun m (u:List a7) k=>jj N (i:Int) (gC N d s n) (iU d.Rules[i] s.Items) m u k) (fun t u=>some (u++t.map (oB i)++dL s.Items (i+1) (d.Rules.drop (i+1)))) (fun u t=>u.length+t.length+(d.Rules.length - (i+1))*M≤4294967296) out NR (fun m u k x t g1 g2 g3 g4 g5 g6 b q=>?_) (fun m u k g1 g2 b=>?_)).trans NS
    ·simp only[gh] at b
     simp only[jj,g5,if_true,g4,fz]
     rw[show (⟨(i:Int),x.Ids,x.Binds⟩:a7)=oB i x from rfl,bO (show u.length+[oB i x].length≤4294967296 by simp;omega),fz,g6]
     rw[q _ (by simp;omega)];simp
    ·simp only[jj,g2,fI,if_false,wr1 i NR]
     rw[l (i+1) u NR NR (by simp at b;omega)];simp
   ·have c1:decide ((i:Int) < (d.Rules.length:Int))=false:=decide_eq_false NR
    rw[hz NR]
    simp only[gC,c1,fI,if_false,dL,List.append_nil]
 have:=lp N 0 [] NR NR (by simpa using j)
 simpa using this
theorem LH {N:Nat} (c:1099400000000≤N) (d:bv) (s:ac) (e:rb d) (f:mA s):jT N d s=some (rJ d s):=by
 unfold jT rJ
 rw[I1 NR d e,fz,xy NR s f]
 cases h1:iP d with
 | false=>simp
 | true=>
  cases b:gl s with
  | false=>simp
  | true=>
   have g:=vZ h1
   have a:=ng h1
   have:=ML c d s NR (fun r h=>⟨DP (a r h) b,DE (a r h)⟩) 64000 (fun r h=>A2 (a r h) b) NR
   simp[this]
def EV (l:List a7) (m:a7):Bool:=l.any fun x=>rB x m
theorem Hs {N:Nat} (d:1099000000000≤N) (ms:List a7) (m:a7) (e:ms.length≤1048576) (b:∀ x∈ms,x.Ids.length≤1048576):ml N ms m=some (EV ms m):=by
 unfold ml cW dp
 have:=yI (bb N ms (fun a0=>ic N a0 m)) ms NR (fun x=>rB x m) (fun n i x c hm a hw=>by
  simp only[bb,a,if_true,c,fz,hw,ic,HR (show 1048578≤N by omega) x m (b x hm)]) (fun n i a=>by simp only[bb,a,fI,if_false]) N 0 NR NR
 rw[List.drop_zero,show ((0:Nat):Int)=0 from rfl] at this
 rw[this];simp only[fz,Cg];rfl
def may (d:bv) (n:ce) (m:aN) (s:ac) (id:Int):Bool:=(iP d && decide (n=bS d)) && (gl s && (w4 n m && (aF s.Items id).2))
theorem Me {N:Nat} (a:1099000000000≤N) (d:bv) (n:ce) (m:aN) (s:ac) (id:Int) (c:rb d) (e:Hk n) (hm:CG m) (b:mA s):pu N d n m s id=some (may d n m s id):=by
 unfold pu may
 rw[ID a n d c e,fz]
 cases iP d && decide (n=bS d) with
 | false=>simp
 | true=>
  rw[xy a s b]
  cases gl s with
  | false=>simp
  | true=>
   rw[Jh a n m hm]
   cases w4 n m with
   | false=>simp
   | true=>simp[sH a s id b.1 (fun x f=>(b.2 x f).2.1)]
theorem Kx {N:Nat} (c:1099000000000≤N) {d:bv} {m:aN} {l:List ag} {nx:Int} {f:aI} {j:Nat} (a:iP d=true) (i:rb d) (F:l.length < 40) (k:mA ⟨l++[⟨nx,f⟩],nx+1⟩) (n:gl ⟨l++[⟨nx,f⟩],nx+1⟩=true) (G:j < 40) (b:n8 d (bS d) j m) (o:sW d (bS d) l m) :
  ∃ x,nR N d (bS d) m ⟨l++[⟨nx,f⟩],nx+1⟩ nx=some x∧n8 d (bS d) (j+1) x∧sW d (bS d) (l++[⟨nx,f⟩]) x:=by
 have p:=mT a
 have g:=(ri p).2.1
 have t:=tc p
 have q:=AD a NR b
 have h:=tX n
 have u:∀ y∈l,y.Id≠nx:=fun y v e=>by
  simp only[List.map_append,List.nodup_append] at h
  exact h.2.2 y.Id (hC.2 ⟨y,v,rfl⟩) nx NS e
 have w:∀ r∈d.Rules,1≤(pos r.Pats).length:=fun r z=>(yq a r z).2.1
 have A:=II g b o w
 have B:∀ x∈l++[(⟨nx,f⟩:ag)],x.F.Fields.length≤1048576:=fun x C=>(k.2 x C).2.1
 have H:(l++[(⟨nx,f⟩:ag)]).length=l.length+1:=by simp
 have D:(aF (l++[(⟨nx,f⟩:ag)]) nx).2=true:=by rw[y6 (x:=⟨nx,f⟩) u]
 have ok:=uU (s:=⟨l++[⟨nx,f⟩],nx+1⟩) (id:=nx) a i (show (l++[(⟨nx,f⟩:ag)]).length≤40 by omega) B NR b
 refine⟨yL d (bS d) m ⟨l++[⟨nx,f⟩],nx+1⟩ nx,?_,t7 NR (show (l++[(⟨nx,f⟩:ag)]).length≤1048576 by omega) g.len b,Df (x:=⟨nx,f⟩) NR h g b o⟩
 have E:may d (bS d) m ⟨l++[⟨nx,f⟩],nx+1⟩ nx=true:=by
  unfold may
  rw[a,n,A,decide_eq_true rfl]
  exact D
 unfold nR
 rw[KZ c m q,fz,Me c d (bS d) m _ nx i t q k,fz,E]
 simp only[if_true,JX c d (bS d) m _ nx ok.ok,fz,jZ]
theorem I6 {xs:List ag} {x:ag} {r:af} (hu:p9 (xs++[x])) {m:a7} (h:m∈iU r (xs++[x])) (hm:x.Id ∉ m.Ids):m∈iU r xs:=by
 obtain⟨h1,d,a⟩:=pN hu h
 have e:bd (xs++[x]) (r.Pats.take (ak r.Pats)) m.Ids []=bd xs (r.Pats.take (ak r.Pats)) m.Ids []:=oA _ _ _ fun v f=>xY fun q=>hm (q ▸ f)
 rw[e] at d
 have g:jP r.Pats xs m.Binds=false:=by
  have:jP r.Pats (xs++[x]) m.Binds=false:=by
   rw[gm] at a
   simpa using a.1
  unfold jP at this ⊢
  rw[List.any_eq_false] at this ⊢
  intro p hp
  have q:=this p hp
  rw[List.any_append] at q
  intro c
  rw[gm] at c
  rw[c.1,c.2] at q
  simp at q
 have:=Af (r:=r) (ids:=m.Ids) (b:=m.Binds) d (by rw[gm] at a ⊢;exact⟨by rw[g];rfl,a.2⟩)
 rwa [show (⟨0,m.Ids,m.Binds⟩:a7)=m by rw[← h1]] at this
theorem Ev {xs:List ag} {x:ag} (hu:p9 (xs++[x])):∀ (t:List af) (i:Nat) (m:a7),m∈dL (xs++[x]) i t→x.Id ∉ m.Ids→m∈dL xs i t
 | [],i,m,h,_=>by simp[dL] at h
 | r :: t,i,m,h,hm=>by
  unfold dL at h ⊢
  rcases gb.1 h with h | h
  ·obtain⟨y,a,rfl⟩:=hC.1 h
   exact gb.2 (.inl (hC.2 ⟨y,I6 hu a hm,rfl⟩))
  ·exact gb.2 (.inr (Ev hu t (i+1) m h hm))
theorem M1 {N:Nat} (a:1099000000000≤N) (l:List Int) (v:Int) (b:l.length≤4294967296):va N l v=some (decide (v∈l)):=by
 unfold va
 refine lp0 a l b (kr N l v) (fun t=>some (decide (v∈t))) (fun n j x t g1 g2 g3 g4 g5 g6 g7=>?_) (fun n j g1 g2=>?_)
 ·simp only[kr,g5,if_true,g4,fz,g6,g7]
  by_cases h:x=v
  ·simp[h]
  ·have c : ¬ v=x:=fun e=>h e.symm
   simp[h,c]
 ·simp only[kr,g2,fI,if_false];simp
theorem Dd {N:Nat} (H:1099400000000≤N) (b:List Int):pG N b=some true:=by
 have a:1099000000000≤N:=by omega
 unfold pG xx
 by_cases l:b.length≤1048576
 ·have c1:decide (1048576 < (b.length:Int))=false:=decide_eq_false NR
  obtain⟨c,z,g0⟩:=Lz a b l
  obtain⟨d,m,s,a1,I,h⟩:=Lk a l g0
  have K:o9 N b=some (d,bS d,m,s):=by
   unfold o9
   rw[z,fz,I,fz]
  obtain⟨st,c2,L,g3,_⟩:=Jf a l g0
  obtain⟨f,c3,M,g4,A⟩:=CI a l (g3.at (c:=c) g0.1)
  have O:lh N b=some (st,f):=by
   unfold lh
   rw[z,fz,L,fz,M,fz]
  have e:=BL h.def_
  have P:=Cr h.def_
  have g:=BY P
  have a6:=h.nx
  have hit:=h.it
  have hlen:=hit.2.1
  have Q:=hit.1
  have n:mA s:=⟨show s.Items.length≤1048576 by omega,xP hit⟩
  have B:=yP hit NR
  obtain⟨j,hj,C⟩:=h.mem
  have R:=Hg a e g n (uC hit) (show j≤40 by omega) C h.has
  have S:=Hm a s f n A B NR NR Q
  simp only[c1,fz,fI,if_false,K,O,R,S]
  by_cases u:sS s.Items f=0
  ·rw[if_pos u]
   obtain⟨-,o⟩:=xF a s.Items s.Next f A hit NR u NR
   have p:mA ⟨s.Items++[⟨s.Next,f⟩],s.Next+1⟩:=⟨show (s.Items++[(⟨s.Next,f⟩:ag)]).length≤1048576 by simp;omega,xP o⟩
   have r:gl ⟨s.Items++[⟨s.Next,f⟩],s.Next+1⟩=true:=yP (s:=⟨s.Items++[⟨s.Next,f⟩],s.Next+1⟩) o (by show s.Next+1≤40;omega)
   obtain⟨x,T,D,E⟩:=Kx a (f:=f) e g (show s.Items.length < 40 by omega) p r (show j < 40 by omega) C h.has
   have U:=Hg a e g p (uC o) (show j+1≤40 by omega) D E
   have V:=IM a g p e r (show j+1≤40 by omega) D E
   have W:rJ d ⟨s.Items++[⟨s.Next,f⟩],s.Next+1⟩=dL (s.Items++[⟨s.Next,f⟩]) 0 d.Rules:=by unfold rJ;rw[e,r];rfl
   have X:=LH H d ⟨s.Items++[⟨s.Next,f⟩],s.Next+1⟩ g p
   have F:=HT e B
   have z2:=HT e r
   have Y:=Fy a _ (dL (s.Items++[⟨s.Next,f⟩]) 0 d.Rules) z2
   have hold:∀ q∈dL (s.Items++[⟨s.Next,f⟩]) 0 d.Rules,s.Next ∉ q.Ids→EV (dL s.Items 0 d.Rules) q=true:=fun q v Z=>by
    unfold EV
    rw[List.any_eq_true]
    exact⟨q,Ev (x:=⟨s.Next,f⟩) (uC o) d.Rules 0 q v Z,by simp[rB]⟩
   have l1:decide (((s.Items++[(⟨s.Next,f⟩:ag)]).length:Int)=(s.Items.length:Int))=false:=decide_eq_false (by simp;omega)
   simp only[hA,fI,if_false,l1,fz,T,U]
   generalize hw:dL s.Items 0 d.Rules=w at *
   generalize hX:dL (s.Items++[⟨s.Next,f⟩]) 0 d.Rules=now at *
   refine lp0 a now (by have:=z2.1;omega) (gO N (d,bS d,m,s) w (⟨s.Items++[⟨s.Next,f⟩],s.Next+1⟩,s.Next,true) x now) (fun _=>some true) (fun k i q t g1 g2 g3 g4 g5 g6 g7=>?_) (fun k i g1 g2=>?_)
   ·simp only[gO,g5,if_true,g4,fz,Hs a w q F.1 (fun y hy=>(F.2 y hy).1),M1 a q.Ids s.Next (by have:=(z2.2 q g2).1;omega),g6,g7]
    cases v:EV w q with
    | true=>simp
    | false=>
     have:s.Next∈q.Ids:=by
      by_cases G:s.Next∈q.Ids
      ·exact G
      ·have:=hold q g2 G
       rw[v] at this
       cases this
     simp[this]
   ·simp only[gO,g2,fI,if_false,V,fz,if_true,X,W,Y,decide_true,jx]
  ·rw[if_neg u]
   simp only[hA,fI,if_false,decide_true,if_true,fz,Hq a s f n.1 (fun x hx=>(n.2 x hx).2.1)]
 ·have c1:decide (1048576 < (b.length:Int))=true:=decide_eq_true NR
  simp only[c1,fz,if_true]
namespace fnCame
theorem law {a:List Int} (w0:(WfL (WfI .u8)) a):pG 1099511627776 a=some true:=Dd NR a
end fnCame
end Go.Proofs.YtedmfnmbjglmbaaGreat
