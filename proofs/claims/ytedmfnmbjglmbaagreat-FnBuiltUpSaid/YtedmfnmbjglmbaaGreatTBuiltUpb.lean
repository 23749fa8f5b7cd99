/- Plain laws, one after the other: PLBuiltUp. -/
import Derived.Test.YtedmfnmbjglmbaaGreatTBuiltUp
import Derived.Test.YtedmfnmbjglmbaaGreatPLib
import Derived.Test.YtedmfnmbjglmbaaGreatWBuiltUpMod
import Derived.Test.YtedmfnmbjglmbaaGreatWBuiltUpPur
namespace Go.Proofs.YtedmfnmbjglmbaaGreat
open Eng
set_option linter.unusedVariables false
set_option linter.unusedSimpArgs false
section
variable {α:Type} {lt:α→α→Bool}
theorem ym (s:Nat):∀ (f:Nat) (l:List α) (a n:Nat),(xe lt s f l a n).length=l.length∧∀ x∈xe lt s f l a n,x∈l
 | 0,l,a,n=>⟨rfl,fun x h=>h⟩
 | f+1,l,a,n=>by
  unfold xe
  split
  ·obtain ⟨h1,h2⟩:=rH (lt:=lt) (s+1) l a (a+1) (a+s)
   obtain ⟨g1,g2⟩:=ym s f (t6 lt (s+1) l a (a+1) (a+s)) (a+s) n
   exact ⟨by rw [g1,h1],fun x h=>h2 x (g2 x h)⟩
  ·exact rH _ _ _ _ _
theorem B6 (F s:Nat):∀ (f:Nat) (l:List α) (a n:Nat),(pas lt F s f l a n).length=l.length∧∀ x∈pas lt F s f l a n,x∈l
 | 0,l,a,n=>⟨rfl,fun x h=>h⟩
 | f+1,l,a,n=>by
  unfold pas
  split
  ·obtain ⟨h1,h2⟩:=p6 (lt:=lt) F l a (a+s) (a+2*s)
   obtain ⟨g1,g2⟩:=B6 F s f (lV lt F l a (a+s) (a+2*s)) (a+2*s) n
   exact ⟨by rw [g1,h1],fun x h=>h2 x (g2 x h)⟩
  ·split
   ·exact p6 _ _ _ _ _
   ·exact ⟨rfl,fun x h=>h⟩
end
variable {p:aa→aa→Option Int} {lt:aa→aa→Bool}
theorem FT {N a i:Nat} (K:List aa→Int→Option (List aa)):∀ (f fuel:Nat) (l:List aa) (j:Nat),j - a < f→j - a < fuel→j < l.length→ri p lt l→l.length≤4294967296 →
  bn N (a:Int) p (i:Int) K fuel l (j:Int)=K (xy lt f l a j) (IntKind.i64.wrap ((i:Int)+1))
 | 0,_,_,_,h,_,_,_,_=>by omega
 | f+1,0,_,_,_,h,_,_,_=>by omega
 | f+1,fuel+1,l,j,h1,h2,h3,hs,hl=>by
  rw [bn,xy]
  by_cases c:a < j
  ·have c1:decide ((a:Int) < (j:Int))=true:=decide_eq_true (by omega)
   have j1:j - 1 < l.length:=by omega
   have b2:j - 1 < (l.set j l[j - 1]).length:=by rw [List.length_set]; omega
   obtain ⟨v,v1,v2⟩:=hs.at_ h3 j1
   simp only [c1,if_true,wS1 (x:=j) (by omega) (by omega),ae h3,ae j1,Option.bind_some,v1,v2]
   by_cases cv:v < 0
   ·have e:=pK (List.getElem?_eq_getElem j1) (List.getElem?_eq_getElem h3)
    rw [List.set_comm _ _ (show j - 1≠j by omega)] at e
    have ih:=FT (N:=N) (a:=a) (i:=i) K f fuel (swp l (j - 1) j) (j - 1) (by omega) (by omega) (by rw [jA]; omega) (hs.sub fun x hx=>tK hx) (by rw [jA]; exact hl)
    rw [e] at ih
    simp only [cv,decide_true,if_true,Int.toNat_natCast,ae b2,Option.bind_some,c,and_self,e,ih]
   ·simp only [cv,decide_false,Bool.false_eq_true,if_false,and_false]
  ·have c1:decide ((a:Int) < (j:Int))=false:=decide_eq_false (by omega)
   simp only [c1,Bool.false_eq_true,if_false,Option.bind_some,c,false_and]
theorem Fq0 {N a b:Nat} (hN:b < N):∀ (f fuel:Nat) (l:List aa) (i:Nat),b - i < f→b - i < fuel→b≤l.length→ri p lt l→l.length≤4294967296 →
  aR N (a:Int) (b:Int) p fuel l (i:Int)=some (t6 lt f l a i b)
 | 0,_,_,_,h,_,_,_,_=>by omega
 | f+1,0,_,_,_,h,_,_,_=>by omega
 | f+1,fuel+1,l,i,h1,h2,h3,hs,hl=>by
  rw [aR,t6]
  by_cases c:i < b
  ·have c1:decide ((i:Int) < (b:Int))=true:=decide_eq_true (by omega)
   obtain ⟨k1,k2⟩:=uc (lt:=lt) (i - a+1) l a i
   rw [c1,if_pos rfl,if_pos c,FT (lt:=lt) _ (i - a+1) N l i (by omega) (by omega) (by omega) hs hl,wr1 i (by omega)]
   exact Fq0 hN f fuel _ (i+1) (by omega) (by omega) (by omega) (hs.sub k2) (by omega)
  ·have c1:decide ((i:Int) < (b:Int))=false:=decide_eq_false (by omega)
   rw [c1,if_neg (by simp),if_neg c]
theorem I9 {N a b f:Nat} (l:List aa) (hN:b < N) (hf:b - (a+1) < f) (h3:b≤l.length) (ha:a≤b) (hs:ri p lt l) (hl:l.length≤4294967296) :
  bC N l (a:Int) (b:Int) p=some (t6 lt f l a (a+1) b):=by
 unfold bC
 rw [wr1 a (by omega)]
 exact Fq0 hN f N l (a+1) hf (by omega) h3 hs hl
theorem FK {N n:Nat} (hN:n < N):∀ (f fuel:Nat) (l:List aa) (a:Nat),n - a < f→n - a < fuel→a≤n→n≤l.length→ri p lt l→l.length≤4294967296 →
  bE N (n:Int) p fuel l (a:Int) ((a+20:Nat):Int)=aS N (n:Int) p N (xe lt 20 f l a n) 20
 | 0,_,_,_,h,_,_,_,_,_=>by omega
 | f+1,0,_,_,_,h,_,_,_,_=>by omega
 | f+1,fuel+1,l,a,h1,h2,h3,h4,hs,hl=>by
  rw [bE,xe]
  by_cases c:a+20≤n
  ·have c1:decide (((a+20:Nat):Int)≤(n:Int))=true:=decide_eq_true (by omega)
   obtain ⟨k1,k2⟩:=rH (lt:=lt) (20+1) l a (a+1) (a+20)
   have e:IntKind.i64.wrap (((a+20:Nat):Int)+20)=((a+20+20:Nat):Int):=wA (x:=a+20) (y:=20) (by omega)
   rw [c1,if_pos rfl,if_pos c,I9 (lt:=lt) (f:=20+1) l (by omega) (by omega) (by omega) (by omega) hs hl,Option.bind_some,e]
   exact FK hN f fuel _ (a+20) (by omega) (by omega) c (by omega) (hs.sub k2) (by omega)
  ·have c1:decide (((a+20:Nat):Int)≤(n:Int))=false:=decide_eq_false (by omega)
   rw [c1,if_neg (by simp),if_neg c,I9 (lt:=lt) (f:=n - a+1) l hN (by omega) h4 h3 hs hl,Option.bind_some]
theorem HU {N n F s:Nat} (hn:n≤4294967296) (hs0:0 < s) (hsn:s < n) (hF:n≤F) (hN:n+F < N) (K:List aa→Int→Option (List aa)):∀ (f fuel:Nat) (l:List aa) (a:Nat),n - a < f→n - a < fuel→a≤n→l.length=n→ri p lt l →
  bW N (n:Int) p (s:Int) K fuel l (a:Int) ((a+2*s:Nat):Int)=K (pas lt F s f l a n) ((2*s:Nat):Int)
 | 0,_,_,_,h,_,_,_,_=>by omega
 | f+1,0,_,_,_,h,_,_,_=>by omega
 | f+1,fuel+1,l,a,h1,h2,h3,h4,hs=>by
  rw [bW,pas]
  have e2:IntKind.i64.wrap ((s:Int)*2)=((2*s:Nat):Int):=by rw [wr (by omega) (by omega)]; omega
  have e3:IntKind.i64.wrap (2*(s:Int))=((2*s:Nat):Int):=by rw [wr (by omega) (by omega)]; omega
  rw [wA (x:=a) (y:=s) (by omega),e2]
  by_cases c:a+2*s≤n
  ·have c1:decide (((a+2*s:Nat):Int)≤(n:Int))=true:=decide_eq_true (by omega)
   obtain ⟨k1,k2⟩:=p6 (lt:=lt) F l a (a+s) (a+2*s)
   have hM:=Be F N l a (a+s) (a+2*s) hs (by omega) (by omega) (by omega) (by omega) (by omega) (by omega)
   rw [c1,if_pos rfl,if_pos c,hM,Option.bind_some,e3,wA (x:=a+2*s) (y:=2*s) (by omega)]
   exact HU hn hs0 hsn hF hN K f fuel _ (a+2*s) (by omega) (by omega) c (by omega) (hs.sub k2)
  ·have c1:decide (((a+2*s:Nat):Int)≤(n:Int))=false:=decide_eq_false (by omega)
   rw [c1,if_neg (by simp),if_neg c]
   by_cases c2:a+s < n
   ·have d1:decide (((a+s:Nat):Int) < (n:Int))=true:=decide_eq_true (by omega)
    have hM:=Be F N l a (a+s) n hs (by omega) (by omega) (by omega) (by omega) (by omega) (by omega)
    rw [d1,if_pos rfl,if_pos c2,hM,Option.bind_some]
   ·have d1:decide (((a+s:Nat):Int) < (n:Int))=false:=decide_eq_false (by omega)
    rw [d1,if_neg (by simp),if_neg c2]
theorem If {N n F:Nat} (hn:n≤4294967296) (hF:n≤F) (hN:n+F < N):∀ (f fuel:Nat) (l:List aa) (s:Nat),0 < s→n - s < f→n - s < fuel→l.length=n→ri p lt l →
  aS N (n:Int) p fuel l (s:Int)=some (stL lt F f l n s)
 | 0,_,_,_,_,h,_,_,_=>by omega
 | f+1,0,_,_,_,_,h,_,_=>by omega
 | f+1,fuel+1,l,s,h0,h1,h2,h4,hs=>by
  rw [aS,stL]
  by_cases c:s < n
  ·have c1:decide ((s:Int) < (n:Int))=true:=decide_eq_true (by omega)
   have e3:IntKind.i64.wrap (2*(s:Int))=((0+2*s:Nat):Int):=by rw [wr (by omega) (by omega)]; omega
   obtain ⟨k1,k2⟩:=B6 (lt:=lt) F s (n+1) l 0 n
   rw [c1,if_pos rfl,if_pos c,e3]
   refine (HU (lt:=lt) (a:=0) hn h0 c hF hN _ (n+1) N l (by omega) (by omega) (by omega) h4 hs).trans ?_
   exact If hn hF hN f fuel _ (2*s) (by omega) (by omega) (by omega) (by omega) (hs.sub k2)
  ·have c1:decide ((s:Int) < (n:Int))=false:=decide_eq_false (by omega)
   rw [c1,if_neg (by simp),if_neg c]
theorem JA {N:Nat} (l:List aa) (hs:ri p lt l) (hl:l.length≤4294967296) (hN:l.length+l.length < N):bJ N l p=some (uF lt l.length l):=by
 unfold bJ dZ uF
 obtain ⟨k1,k2⟩:=ym (lt:=lt) 20 (l.length+1) l 0 l.length
 have h1:=FK (lt:=lt) (N:=N) (n:=l.length) (by omega) (l.length+1) N l 0 (by omega) (by omega) (by omega) (Nat.le_refl _) hs hl
 simp only [Int.natCast_zero,Nat.zero_add] at h1
 have h1':bE N (l.length:Int) p N l 0 20=_:=h1
 have h2:=If (lt:=lt) (N:=N) (n:=l.length) (F:=l.length) hl (Nat.le_refl _) hN (l.length+1) N (xe lt 20 (l.length+1) l 0 l.length) 20 (by omega) (by omega) (by omega) k1 (hs.sub k2)
 have h2':aS N (l.length:Int) p N (xe lt 20 (l.length+1) l 0 l.length) 20=_:=h2
 rw [h1',h2',Option.bind_some]
theorem FU {N:Nat} (hN:1099000000000≤N) (p:List ax) (n:ByteArray) (hl:p.length≤4294967296):lA N p n=some (xq p n):=by
 unfold lA
 have:∀ (k i:Nat),i≤p.length→p.length - i < k→gU N p n k i=some (xq (p.drop i) n):=by
  intro k
  induction k with
  | zero=>intro i _ h; omega
  | succ k ih=>
   intro i hi hk
   simp only [gU]
   by_cases hlt:i < p.length
   ·have c1:decide ((i:Int) < (p.length:Int))=true:=decide_eq_true (by omega)
    rw [List.drop_eq_getElem_cons hlt,DO]
    simp only [c1,if_true,ae hlt,Option.bind_some,wr1 i (by omega),ih (i+1) (by omega) (by omega)]
    cases seq p[i].Name n <;> rfl
   ·have c1:decide ((i:Int) < (p.length:Int))=false:=decide_eq_false (by omega)
    simp only [c1,Bool.false_eq_true,if_false]
    rw [List.drop_of_length_le (by omega)]; rfl
 exact this N 0 (by omega) (by omega)
theorem AS {N:Nat} (hN:1099000000000≤N) (p:au) (f:aL) (b:List ax) (he:p.Args.length=f.Fields.length) (hl:p.Args.length≤1048576) (hb:b.length≤2147483648):∀ (n i:Nat) (s:List ax),i≤p.Args.length→p.Args.length - i < n→s.length≤2147483648+i →
  dC N p f b n s i=some (ev b (p.Args.drop i) (f.Fields.drop i) s):=by
 intro n
 induction n with
 | zero=>intro i s _ h; omega
 | succ n ih=>
  intro i s hi hn hs
  simp only [dC]
  by_cases hlt:i < p.Args.length
  ·have c1:decide ((i:Int) < (p.Args.length:Int))=true:=decide_eq_true (by omega)
   have hlt':i < f.Fields.length:=by omega
   rw [List.drop_eq_getElem_cons hlt,List.drop_eq_getElem_cons hlt',ev]
   simp only [c1,if_true,ae hlt,ae hlt',Option.bind_some,FU hN s _ (show s.length≤4294967296 by omega),bc,gZ (show b.length≤4294967296 by omega),dG (show s.length+[(⟨p.Args[i].S,f.Fields[i]⟩:ax)].length≤4294967296 by simp; omega),wr1 i (by omega),mS,orS]
   have ih1:=ih (i+1) s (by omega) (by omega) (by omega)
   have ih2:=ih (i+1) (s++[⟨p.Args[i].S,f.Fields[i]⟩]) (by omega) (by omega) (by simp; omega)
   by_cases k2:p.Args[i].K=2
   ·have k1 : ¬ p.Args[i].K=1:=by omega
    simp only [k2,k1,decide_true,decide_false,if_true,if_false,Bool.true_and,Bool.false_and,Bool.or_false,Bool.false_eq_true,Option.bind_some,show ¬ (2:Int)=1 by omega]
    cases bT p.Args[i].V f.Fields[i] with
    | true=>simpa using ih1
    | false=>simp
   ·by_cases k1:p.Args[i].K=1
    ·simp only [k1,decide_true,decide_false,if_true,if_false,Bool.true_and,Bool.false_and,Bool.false_or,Bool.false_eq_true,Option.bind_some,show ¬ (1:Int)=2 by omega]
     cases (xq s p.Args[i].S).2 with
     | true=>
      simp only [if_true,Bool.not_true,Bool.true_and,Bool.false_eq_true,if_false]
      cases bT (xq s p.Args[i].S).1 f.Fields[i] with
      | true=>simpa using ih1
      | false=>simp
     | false=>simpa using ih2
    ·simp only [k1,k2,decide_false,if_false,Bool.false_and,Bool.false_or,Bool.or_false,Bool.false_eq_true,Option.bind_some]
     simpa using ih1
  ·have c1:decide ((i:Int) < (p.Args.length:Int))=false:=decide_eq_false (by omega)
   simp only [c1,Bool.false_eq_true,if_false]
   rw [List.drop_of_length_le (by omega)]
   rfl
theorem DV (a b:ByteArray):seq a b=seq b a:=by rw [o4,o4]; simp [eq_comm]
theorem tA {N:Nat} (hN:1099000000000≤N) (p:au) (f:aL) (b:List ax) (hl:p.Args.length≤1048576) (hb:b.length≤2147483648):gK N p f b=some (cA p f b):=by
 unfold gK cA bc
 rw [gZ (by omega),DV f.Kind p.Kind]
 simp only [Option.bind_some,orS]
 cases hk:seq p.Kind f.Kind with
 | false=>simp
 | true=>
  by_cases he:p.Args.length=f.Fields.length
  ·have he':decide ((f.Fields.length:Int)=(p.Args.length:Int))=true:=decide_eq_true (by omega)
   have:=(AS hN p f b he hl hb N 0 b (by omega) (by omega) (by omega))
   simp only [he',he,Bool.not_true,Bool.or_false,Bool.false_eq_true,if_false,true_and,if_true]
   simpa using this
  ·have he':decide ((f.Fields.length:Int)=(p.Args.length:Int))=false:=decide_eq_false (by omega)
   simp [he',he]
theorem tz {N:Nat} (hN:1099000000000≤N) (s:ah) (v:Int) (hl:s.Items.length≤1048576) (hx:∀ x∈s.Items,x.F.Fields.length≤1048576):kh N s v=some (bw s.Items v):=by
 unfold kh
 refine lp0 hN s.Items (by omega) (fE N s v) (fun t=>some (bw t v)) (fun n i x t h1 h2 h3 h4 h5 h6 h7=>?_) (fun n i h1 h2=>?_)
 ·have e:l8 N x.F=some x.F:=by
   unfold l8 fe
   rw [gZ (show x.F.Fields.length≤4294967296 by have:=hx x h2; omega)]; rfl
  simp only [fE,h5,if_true,h4,Option.bind_some,h6,h7,e,vc]
  by_cases h:x.Id=v <;> simp [h]
 ·simp only [fE,h2,Bool.false_eq_true,if_false]; rfl
theorem ra {N:Nat} (hN:1099000000000≤N) (r:af) (b:Bool) (hl:r.Pats.length≤1048576):mG N r b=some (r.Pats.filter fun p=>p.Not == b):=by
 unfold mG
 refine (lp' hN r.Pats (by omega) (it N r b) (fun t u=>some (u++t.filter fun p=>p.Not == b)) (fun u t=>u.length+t.length≤1048576) [] (by simpa using hl) (fun n u i p t g1 g2 g3 g4 g5 g6 gI ih=>?_) (fun n u i g1 g2 gI=>?_)).trans (by simp)
 ·simp only [List.length_cons] at gI
  simp only [it,g5,if_true,g4,Option.bind_some,List.filter_cons,g6]
  cases hb:(p.Not == b) with
  | true=>
   simp only [if_true,dG (show u.length+[p].length≤4294967296 by simp; omega),Option.bind_some]
   rw [ih _ (by simp; omega)]; simp
  | false=>
   simp only [Bool.false_eq_true,if_false]
   exact ih u (by omega)
 ·simp only [it,g2,Bool.false_eq_true,if_false]; simp
theorem DH {N:Nat} (hN:1099000000000≤N) (ps:List au) (s:ah) (ids:List Int) (ha:d9 ps≤1048576) (hp:∀ p∈ps,p.Args.length≤1048576) (hs:s.Items.length≤1048576) (hx:∀ x∈s.Items,x.F.Fields.length≤1048576) (hi:ids.length≤1048576) (he:ids.length=ps.length) :
  gw N ps s ids=some (bd s.Items ps ids []):=by
 unfold gw
 have lp:∀ (n i:Nat) (l:List ax),i≤ids.length→ids.length - i < n→l.length+d9 (ps.drop i)≤1048576→dx N ps s ids n l i=some (bd s.Items (ps.drop i) (ids.drop i) l):=by
  intro n
  induction n with
  | zero=>intro i _ _ h; omega
  | succ n ih=>
   intro i l h1 hn hl
   by_cases hlt:i < ids.length
   ·have c1:decide ((i:Int) < (ids.length:Int))=true:=decide_eq_true (by omega)
    have hlt':i < ps.length:=by omega
    rw [List.drop_eq_getElem_cons hlt'] at hl
    rw [eI] at hl
    have hml:=kJ ps[i] (bw s.Items ids[i]).1 l
    rw [List.drop_eq_getElem_cons hlt,List.drop_eq_getElem_cons hlt',bd]
    simp only [dx,c1,if_true,ae hlt,ae hlt',Option.bind_some,tz hN s _ hs hx,tA hN ps[i] _ l (hp _ (List.getElem_mem hlt')) (show l.length≤2147483648 by omega),wr1 i (by omega)]
    cases (bw s.Items ids[i]).2 with
    | false=>simp
    | true=>
     cases (cA ps[i] (bw s.Items ids[i]).1 l).2 with
     | false=>simp
     | true=>
      simp only [Bool.not_true,Bool.false_eq_true,if_false,and_self,if_true]
      exact ih (i+1) _ (by omega) (by omega) (by omega)
   ·have c1:decide ((i:Int) < (ids.length:Int))=false:=decide_eq_false (by omega)
    simp only [dx,c1,Bool.false_eq_true,if_false]
    rw [List.drop_of_length_le (by omega),List.drop_of_length_le (by omega)]; rfl
 have:=lp N 0 [] (by omega) (by omega) (by simpa using ha)
 simpa using this
theorem BO {N:Nat} (hN:1099000000000≤N) (r:af) (s:ah) (ids:List Int) (hl:r.Pats.length≤1048576) (ha:d9 r.Pats≤1048576) (hp:∀ p∈r.Pats,p.Args.length≤1048576) (hs:s.Items.length≤1048576) (hx:∀ x∈s.Items,x.F.Fields.length≤1048576) (hi:ids.length≤1048576) :
  kV N r s ids=some (bd s.Items (pos r.Pats) ids []):=by
 unfold kV
 rw [ra hN r false hl,Option.bind_some,zl]
 by_cases he:ids.length=(pos r.Pats).length
 ·have c1:decide ((ids.length:Int)=((pos r.Pats).length:Int))=true:=decide_eq_true (by omega)
  have h1:=ov r.Pats
  rw [c1]
  simp only [Bool.not_true,Bool.false_eq_true,if_false,DH hN (pos r.Pats) s ids (by omega) (fun p h=>hp p ((List.mem_filter.1 h).1)) hs hx hi he,Option.bind_some]
 ·have c1:decide ((ids.length:Int)=((pos r.Pats).length:Int))=false:=decide_eq_false (by omega)
  rw [c1,ur (fun h=>he h.symm)]; rfl
theorem Ad {N:Nat} (hN:1099000000000≤N) (a:bh) (l:List ax) (hl:l.length≤4294967296):lx N a l=some (mN a l):=by
 unfold lx mN
 rw [FU hN l a.S hl]
 by_cases h2:a.K=2
 ·simp [h2]
 ·by_cases h1:a.K=1 <;> simp [h1,h2,zv]
theorem or3 {N:Nat} (hN:1099000000000≤N) (a b c:Int):ft N [a,b,c]=some (if a=0 then (if b=0 then c else b) else a):=by
 obtain ⟨n,rfl⟩:∃ n,N=n+4:=⟨N - 4,by omega⟩
 unfold ft
 have w1:IntKind.i64.wrap ((0:Int)+1)=1:=by decide
 have w2:IntKind.i64.wrap ((1:Int)+1)=2:=by decide
 have w3:IntKind.i64.wrap ((2:Int)+1)=3:=by decide
 have i0:idx [a,b,c] 0=some a:=rfl
 have i1:idx [a,b,c] 1=some b:=rfl
 have i2:idx [a,b,c] 2=some c:=rfl
 have l2:(([a,b,c]:List Int).length:Int)=3:=rfl
 simp only [fg,w1,w2,w3,i0,i1,i2,l2,Option.bind_some]
 by_cases ha:a=0
 ·by_cases hb:b=0
  ·by_cases hc:c=0 <;> simp [ha,hb,hc]
  ·simp [ha,hb]
 ·simp [ha]
theorem Lx (N:Nat) (a b:ByteArray):fa N a b=some (if slt a b=true then -1 else if (!slt a b && !seq a b)=true then 1 else 0):=by
 unfold fa gn
 simp only [EH,Bool.not_true,Option.bind_some,Bool.false_eq_true,if_false]
 cases slt a b with
 | true=>simp
 | false=>cases seq a b <;> simp
theorem Ht {N:Nat} (hN:1099000000000≤N) (x y:aN):mH N x y=some (Gm x y):=by
 unfold mH jW Gm
 simp only [zg,Lx,Option.bind_some,or3 hN,cmp]
 congr 1
 by_cases h1:x.K=y.K
 ·by_cases h2:x.N=y.N
  ·simp only [h1,h2,Int.lt_irrefl,if_false,if_true]
   cases slt x.S y.S with
   | true=>simp
   | false=>cases seq x.S y.S <;> simp
  ·simp only [h1,h2,Int.lt_irrefl,if_false,if_true]
   by_cases h3:x.N < y.N
   ·simp [h3]
   ·have h4:y.N < x.N:=by omega
    simp [h3,h4]
 ·simp only [h1,if_false]
  by_cases h3:x.K < y.K
  ·simp [h3]
  ·have h4:y.K < x.K:=by omega
   simp [h3,h4]
theorem GH {N:Nat} (hN:1099000000000≤N) (c:cm) (l:List ax) (hl:l.length≤4294967296):pG N c l=some (holds c l):=by
 unfold pG holds
 rw [Ad hN c.L l hl,Ad hN c.R l hl]
 simp only [Option.bind_some,Ht hN,kE]
 cases (mN c.L l).2 with
 | false=>simp
 | true=>
  cases (mN c.R l).2 with
  | false=>simp
  | true=>
   by_cases h1:c.Op=1
   ·simp [h1]
   ·by_cases h2:c.Op=2
    ·simp [h2]
    ·by_cases h3:c.Op=3 <;> simp [h1,h2,h3]
theorem yu {N:Nat} (hN:1099000000000≤N) (cs:List cm) (l:List ax) (hc:cs.length≤4194304) (hl:l.length≤4294967296):kD N cs l=some (cs.all fun c=>holds c l):=by
 unfold kD
 refine lp0 hN cs (by omega) (eT N cs l) (fun t=>some (t.all fun c=>holds c l)) (fun n i x t h1 h2 h3 h4 h5 h6 h7=>?_) (fun n i h1 h2=>?_)
 ·simp only [eT,h5,if_true,h4,Option.bind_some,GH hN x l hl,h6,h7,List.all_cons]
  cases holds x l <;> simp
 ·simp only [eT,h2,Bool.false_eq_true,if_false]; rfl
theorem JD {N:Nat} (hN:1099000000000≤N) (t:aD) (h:t.Hits.length≤4294967296):o8 N t=some (uS t):=by
 unfold o8 uS
 refine lp0 hN t.Hits h (fL N t) (fun l=>some (l.all fun n=>decide (n=0))) (fun n i x l g1 g2 g3 g4 g5 g6 g7=>?_) (fun n i g1 g2=>?_)
 ·simp only [fL,g5,if_true,g4,Option.bind_some,g6,g7,List.all_cons]
  by_cases c:x=0 <;> simp [c]
 ·simp only [fL,g2,Bool.false_eq_true,if_false]; rfl
structure SzP (r:af) (xs:List ak):Prop where
 pl:r.Pats.length≤1048576
 sa:d9 r.Pats≤1048576
 pa:∀ p∈r.Pats,p.Args.length≤1048576
 cl:r.Conds.length≤1048576
 sl:xs.length≤1048576
 fl:∀ x∈xs,x.F.Fields.length≤1048576
theorem SzP.binds {r:af} {xs:List ak} (h:SzP r xs) (ids:List Int):(bd xs (pos r.Pats) ids []).1.length≤1048576:=by
 have h1:=sT (xs:=xs) (pos r.Pats) ids []
 have h2:=ov r.Pats
 have h3:=h.sa
 simp at h1
 omega
theorem Aa {xs:List ak} {i:Int} {r:af} {t:aD} {b:Bool} (h:((bd xs (pos r.Pats) t.Ids []).2 && (uS t && r.Conds.all fun c=>holds c (bd xs (pos r.Pats) t.Ids []).1))=b):rn xs i r t=if b=true then [⟨i,t.Ids,(bd xs (pos r.Pats) t.Ids []).1⟩] else []:=by
 unfold rn; rw [h]
theorem Hv {N:Nat} (hN:1099000000000≤N) (s:ah) (s1:List aa) (i:Nat) (K:List aa→Int→Option (List aa)) (r:af) (L:aO) (hz:SzP r s.Items) (hL:L.Toks.length≤1048576) (ht:∀ t∈L.Toks,t.Ids.length≤1048576∧t.Hits.length≤1048576) :
  eA N s s1 (i:Int) K r L N [] 0=(app s1 (sK (nq s.Items (i:Int) r L.Toks))).bind fun x=>K x (IntKind.i64.wrap ((i:Int)+1)):=by
 refine (lp' hN L.Toks (by omega) (fun n (u:List aa) j=>eA N s s1 (i:Int) K r L n u j) (fun t u=>(app s1 (sK (u++nq s.Items (i:Int) r t))).bind fun x=>K x (IntKind.i64.wrap ((i:Int)+1))) (fun u t=>u.length+t.length≤1048576∧∀ x∈u,x.Ids.length≤1048576) [] ⟨by simpa using hL,by simp⟩ (fun n u j t l g1 g2 g3 g4 g5 g6 gI gh=>?_) (fun n u j g1 g2 gI=>?_)).trans (by simp)
 ·obtain ⟨i1,i2⟩:=gI
  simp only [List.length_cons] at i1
  obtain ⟨t1,t2⟩:=ht t g2
  have hb:=hz.binds t.Ids
  have hcl:=hz.cl
  have es:nq s.Items (i:Int) r (t :: l)=rn s.Items (i:Int) r t++nq s.Items (i:Int) r l:=rfl
  have skip:((bd s.Items (pos r.Pats) t.Ids []).2 && (uS t && r.Conds.all fun c=>holds c (bd s.Items (pos r.Pats) t.Ids []).1))=false→eA N s s1 (i:Int) K r L n u ((j+1:Nat):Int)=(app s1 (sK (u++nq s.Items (i:Int) r (t :: l)))).bind fun x=>K x (IntKind.i64.wrap ((i:Int)+1)):=fun h=>by
   rw [gh u ⟨by omega,i2⟩,es,Aa h]; simp
  simp only [eA,g5,if_true,g4,Option.bind_some,BO hN r s t.Ids hz.pl hz.sa hz.pa hz.sl hz.fl t1]
  cases hA:(bd s.Items (pos r.Pats) t.Ids []).2 with
  | false=>
   simp only [Bool.false_eq_true,if_false,Option.bind_some,g6]
   exact skip (by rw [hA]; rfl)
  | true=>
   simp only [if_true,JD hN t (by omega),Option.bind_some]
   cases hF:uS t with
   | false=>
    simp only [Bool.false_eq_true,if_false,Option.bind_some,g6]
    exact skip (by rw [hA,hF]; rfl)
   | true=>
    simp only [if_true,yu hN r.Conds _ (show r.Conds.length≤4194304 by omega) (show (bd s.Items (pos r.Pats) t.Ids []).1.length≤4294967296 by omega),Option.bind_some]
    cases hH:(r.Conds.all fun c=>holds c (bd s.Items (pos r.Pats) t.Ids []).1) with
    | false=>
     simp only [Bool.false_eq_true,if_false,g6]
     exact skip (by rw [hA,hF,hH]; rfl)
    | true=>
     simp only [if_true,bZ,gZ (show t.Ids.length≤4294967296 by omega),Option.bind_some,dG (show u.length+[(⟨(i:Int),t.Ids,(bd s.Items (pos r.Pats) t.Ids []).1⟩:aa)].length≤4294967296 by simp; omega),g6]
     rw [gh _ ⟨by simp; omega,fun x hx=>by
      rcases List.mem_append.1 hx with hx | hx
      ·exact i2 x hx
      ·simp only [List.mem_singleton] at hx; rw [hx]; exact t1⟩,es,Aa (b:=true) (by rw [hA,hF,hH]; rfl)]
     simp
 ·obtain ⟨i1,i2⟩:=gI
  simp only [List.length_nil,Nat.add_zero] at i1
  have hs:ri (dH N) kG u:=fun x hx y hy=>EN (by omega) x y (i2 x hx)
  simp only [eA,g2,Bool.false_eq_true,if_false,JA (N:=N) u hs (by omega) (by omega),Option.bind_some]
  simp [nq,sK]
theorem Fu:sK []=[]:=by
 have:=(zu []).2.length_eq
 exact List.length_eq_zero_iff.1 (by simpa using this)
theorem Ge (l:List aa):(sK l).length=l.length:=(zu l).2.length_eq
theorem DD {w:cq} (h:w.Levels.length=0):nL w=[]:=by
 unfold nL
 rw [List.length_eq_zero_iff.1 h]; rfl
def Dy:List cq→Nat
 | []=>0
 | w :: ws=>(nL w).length+Dy ws
def kT:List bh→List aN
 | []=>[]
 | a :: t=>if a.K=2 then a.V :: kT t else kT t
def ats:Nat→List bh→List Int
 | _,[]=>[]
 | i,a :: t=>if a.K=2 then (i:Int) :: ats (i+1) t else ats (i+1) t
def bg (p:au):aM:=⟨p.Kind,(p.Args.length:Int),kT p.Args,ats 0 p.Args⟩
theorem xj:∀ (l:List bh),(kT l).length≤l.length
 | []=>by simp [kT]
 | a :: t=>by have:=xj t; unfold kT; split <;> simp <;> omega
theorem CP:∀ (l:List bh) (i:Nat),(ats i l).length≤l.length
 | [],_=>by simp [ats]
 | a :: t,i=>by have:=CP t (i+1); unfold ats; split <;> simp <;> omega
theorem GI {N:Nat} (hN:1099000000000≤N) (p:au) (hl:p.Args.length≤1048576):mD N p=some (bg p):=by
 have lp:∀ (n i:Nat) (cs:List aN) (as:List Int),i≤p.Args.length→p.Args.length - i < n→cs.length≤i→as.length≤i →
   eR N p n cs as i=some ⟨p.Kind,(p.Args.length:Int),cs++kT (p.Args.drop i),as++ats i (p.Args.drop i)⟩:=by
  intro n
  induction n with
  | zero=>intro i _ _ _ h; omega
  | succ n ih=>
   intro i cs as hi hn h1 h2
   by_cases hlt:i < p.Args.length
   ·have c1:decide ((i:Int) < (p.Args.length:Int))=true:=decide_eq_true (by omega)
    rw [List.drop_eq_getElem_cons hlt]
    simp only [eR,c1,if_true,ae hlt,Option.bind_some,wr1 i (by omega),kT,ats]
    by_cases hk:p.Args[i].K=2
    ·simp only [hk,decide_true,if_true,dG (show cs.length+[p.Args[i].V].length≤4294967296 by simp; omega),dG (show as.length+[(i:Int)].length≤4294967296 by simp; omega),Option.bind_some]
     rw [ih (i+1) _ _ (by omega) (by omega) (by simp; omega) (by simp; omega)]; simp
    ·simp only [hk,decide_false,Bool.false_eq_true,if_false]
     exact ih (i+1) _ _ (by omega) (by omega) (by omega) (by omega)
   ·have c1:decide ((i:Int) < (p.Args.length:Int))=false:=decide_eq_false (by omega)
    rw [List.drop_of_length_le (by omega)]
    simp only [eR,c1,Bool.false_eq_true,if_false,kT,ats,List.append_nil]
 have:=lp N 0 [] [] (by omega) (by omega) (by simp) (by simp)
 unfold mD bg
 simpa using this
theorem Ji (x y:aN):bT x y=decide (x=y):=kE x y
def qv (a:aM):Prop:=a.Consts.length≤1048576∧a.At.length≤1048576
theorem EM {N:Nat} (hN:1099000000000≤N) (x y:List Int) (hl:x.length≤4294967296):cu N x y=some (decide (x=y)):=by
 unfold cu
 by_cases c:x.length=y.length
 ·rw [if_neg (by simp; omega)]
  refine (sW (cE N x y) x y c (by omega) (fun a b=>some (decide (a=b))) (fun a _ b _=>rfl) (fun k i=>rfl) N 0 (by omega) (by omega)).trans ?_
  simp
 ·rw [if_pos (by simp; omega)]
  have : ¬ x=y:=fun e=>c (by rw [e])
  simp [this]
theorem IX {N:Nat} (hN:1099000000000≤N) (x y:List aN) (hl:x.length≤4294967296):bV N x y=some (decide (x=y)):=by
 unfold bV
 by_cases c:x.length=y.length
 ·rw [if_neg (by simp; omega)]
  refine (sW (bl N x y) x y c (by omega) (fun a b=>some (decide (a=b))) (fun a _ b _=>rfl) (fun k i=>by simp only [bl,Ji,Option.bind_some]) N 0 (by omega) (by omega)).trans ?_
  simp
 ·rw [if_pos (by simp; omega)]
  have : ¬ x=y:=fun e=>c (by rw [e])
  simp [this]
theorem GN {N:Nat} (hN:1099000000000≤N) (x y:aM) (h:qv x):jM N x y=some (decide (x=y)):=by
 unfold jM
 simp only [EM hN _ _ (show x.At.length≤4294967296 by have:=h.2; omega),IX hN _ _ (show x.Consts.length≤4294967296 by have:=h.1; omega),Option.bind_some,mS,o4]
 obtain ⟨a,b,c,d⟩:=x; obtain ⟨e,f,g,k⟩:=y
 simp only [aM.mk.injEq,← Bool.decide_and,and_assoc]
def m7 (fs:List aN):List Int→List aN→Bool
 | [],_=>true
 | _ :: _,[]=>false
 | x :: t,c :: cs=>(decide (0≤x) && (decide (x < (fs.length:Int)) && decide (idx fs x=some c))) && m7 fs t cs
def lO (a:aM) (f:aL):Bool:=(seq f.Kind a.Kind && decide ((f.Fields.length:Int)=a.N)) && m7 f.Fields a.At a.Consts
theorem Ez {N:Nat} (hN:1099000000000≤N) (a:aM) (f:aL) (h:a.At.length≤1048576):nX N a f=some (lO a f):=by
 have lp:∀ (n i:Nat),i≤a.At.length→a.At.length - i < n→gR N a f n i=some (m7 f.Fields (a.At.drop i) (a.Consts.drop i)):=by
  intro n
  induction n with
  | zero=>intro i _ h; omega
  | succ n ih=>
   intro i hi hn
   simp only [gR]
   by_cases hlt:i < a.At.length
   ·have c1:decide ((i:Int) < (a.At.length:Int))=true:=decide_eq_true (by omega)
    rw [List.drop_eq_getElem_cons hlt]
    simp only [c1,if_true,ae hlt,Option.bind_some,wr1 i (by omega),ih (i+1) (by omega) (by omega)]
    by_cases hc:i < a.Consts.length
    ·have c2:decide ((a.Consts.length:Int)≤(i:Int))=false:=decide_eq_false (by omega)
     rw [List.drop_eq_getElem_cons hc,m7]
     by_cases h0:a.At[i] < 0
     ·simp [h0,c2,show ¬ 0≤a.At[i] by omega]
     ·by_cases h1:(f.Fields.length:Int)≤a.At[i]
      ·simp [h0,h1,show ¬ a.At[i] < (f.Fields.length:Int) by omega]
      ·obtain ⟨j,hj⟩:∃ j:Nat,a.At[i]=(j:Int):=⟨a.At[i].toNat,by omega⟩
       have hjl:j < f.Fields.length:=by omega
       rw [hj]
       rw [hj] at h0 h1
       simp only [h0,h1,c2,decide_false,Bool.false_eq_true,if_false,Option.bind_some,ae hjl,ae hc,kE,Option.some.injEq]
       by_cases he:f.Fields[j]=a.Consts[i] <;> simp [he,hjl]
    ·have c2:decide ((a.Consts.length:Int)≤(i:Int))=true:=decide_eq_true (by omega)
     rw [List.drop_of_length_le (show a.Consts.length≤i by omega),m7]
     by_cases h0:a.At[i] < 0
     ·simp [h0,c2]
     ·by_cases h1:(f.Fields.length:Int)≤a.At[i] <;> simp [h0,h1,show a.Consts.length≤i by omega]
   ·have c1:decide ((i:Int) < (a.At.length:Int))=false:=decide_eq_false (by omega)
    rw [List.drop_of_length_le (show a.At.length≤i by omega)]
    simp only [c1,Bool.false_eq_true,if_false,m7]
 have l0:=lp N 0 (by omega) (by omega)
 rw [List.drop_zero,List.drop_zero,show ((0:Nat):Int)=0 from rfl] at l0
 unfold nX lO
 rw [l0]
 cases seq f.Kind a.Kind <;> by_cases hl:(f.Fields.length:Int)=a.N <;> simp [hl]
def cr (as:List aM) (a:aM):Int × List aM:=match as.findIdx? (fun x=>decide (x=a)) with | some j=>((j:Int),as) | none=>((as.length:Int),as++[a])
def ct:List aM→List Int→List Int→List au→List aM × List Int × List Int
 | as,p,n,[]=>(as,p,n)
 | as,p,n,x :: t=>if x.Not then ct (cr as (bg x)).2 p (n++[(cr as (bg x)).1]) t else ct (cr as (bg x)).2 (p++[(cr as (bg x)).1]) n t
def fW:List aM→List bR→List af→fj
 | as,cs,[]=>⟨as,cs⟩
 | as,cs,r :: t=>fW (ct as [] [] r.Pats).1 (cs++[⟨(ct as [] [] r.Pats).2.1,(ct as [] [] r.Pats).2.2⟩]) t
def de (d:bP):fj:=fW [] [] d.Rules
theorem wv {p:au} (h:p.Args.length≤1048576):qv (bg p):=by
 have h1:=xj p.Args
 have h2:=CP p.Args 0
 exact ⟨by show (kT p.Args).length≤_; omega,by show (ats 0 p.Args).length≤_; omega⟩
theorem rA (as:List aM) (a:aM):(cr as a).2.length≤as.length+1∧as.length≤(cr as a).2.length:=by
 unfold cr
 split <;> simp
theorem va {P:aM→Prop} {as:List aM} {a:aM} (h:∀ x∈as,P x) (ha:P a):∀ x∈(cr as a).2,P x:=by
 unfold cr
 split
 ·exact h
 ·intro x hx
  rcases List.mem_append.1 hx with h1 | h1
  ·exact h x h1
  ·simp at h1; rw [h1]; exact ha
theorem qX {P:aM→Prop}:∀ (t:List au) (as:List aM) (p n:List Int),(∀ x∈as,P x)→(∀ x∈t,P (bg x))→∀ x∈(ct as p n t).1,P x
 | [],as,p,n,h,_=>h
 | x :: t,as,p,n,h,ht=>by
  unfold ct
  have:=va h (ht x (by simp))
  split
  ·exact qX t _ _ _ this fun y hy=>ht y (by simp [hy])
  ·exact qX t _ _ _ this fun y hy=>ht y (by simp [hy])
theorem qR:∀ (t:List au) (as:List aM) (p n:List Int),(ct as p n t).1.length≤as.length+t.length∧(ct as p n t).2.1.length+(ct as p n t).2.2.length=p.length+n.length+t.length
 | [],as,p,n=>by simp [ct]
 | x :: t,as,p,n=>by
  have h1:=(rA as (bg x)).1
  unfold ct
  split
  ·have:=qR t (cr as (bg x)).2 p (n++[(cr as (bg x)).1])
   simp only [List.length_append,List.length_cons,List.length_nil] at this ⊢
   omega
  ·have:=qR t (cr as (bg x)).2 (p++[(cr as (bg x)).1]) n
   simp only [List.length_append,List.length_cons,List.length_nil] at this ⊢
   omega
def oD (l:List af):Nat:=(l.map fun r=>r.Pats.length).sum
theorem o7 (r:af) (t:List af):oD (r :: t)=r.Pats.length+oD t:=by simp [oD]
def zA (rs:List af):Prop:=rs.length≤1048576∧oD rs≤1048576∧∀ r∈rs,∀ p∈r.Pats,p.Args.length≤1048576
theorem AE {B:Nat}:∀ {l:List af},(∀ r∈l,r.Pats.length≤B)→oD l≤l.length*B
 | [],_=>by simp [oD]
 | p :: t,h=>by
  have h1:=AE (l:=t) fun q hq=>h q (by simp [hq])
  have h2:=h p (by simp)
  rw [o7,List.length_cons,Nat.succ_mul]; omega
theorem tm {c:Nat}:∀ (l:List au) (i:Nat),fU c i l=true→∀ p∈l,lm p=true
 | [],_,_,p,hp=>by cases hp
 | x :: t,i,h,p,hp=>by
  unfold fU at h
  simp only [Bool.and_eq_true] at h
  rcases List.mem_cons.1 hp with rfl | hp
  ·exact h.1
  ·exact tm t _ h.2.2 p hp
theorem pJ {d:bP} (hd:gX d=true):zA d.Rules:=by
 have h1:d.Rules.length≤12:=by
  unfold gX at hd
  simp only [Bool.and_eq_true,decide_eq_true_eq] at hd
  exact hd.2.1.2
 have h2:∀ r∈d.Rules,gr r.Pats=true:=fun r hr=>by
  have:=lW hd r hr
  unfold hP at this
  simp only [Bool.and_eq_true] at this
  exact this.2.2.1
 have h3:∀ r∈d.Rules,r.Pats.length≤6:=fun r hr=>by
  have:=h2 r hr
  unfold gr at this
  simp only [Bool.and_eq_true,decide_eq_true_eq] at this
  exact this.1.2
 have h4:=AE h3
 refine ⟨by omega,by omega,fun r hr p hp=>?_⟩
 have:=h2 r hr
 unfold gr at this
 simp only [Bool.and_eq_true,decide_eq_true_eq] at this
 have h5:=tm _ _ this.2.2 p hp
 unfold lm at h5
 simp only [Bool.and_eq_true,decide_eq_true_eq] at h5
 omega
theorem AX:∀ (l:List au),(l.filter fun x=>!x.Not).length+(l.filter fun x=>x.Not).length=l.length
 | []=>rfl
 | p :: t=>by
  have:=AX t
  simp only [List.filter_cons]
  cases p.Not <;> simp <;> omega
theorem qh:∀ (l:List au),(l.filter fun x=>!x.Not).length=an l
 | []=>rfl
 | p :: t=>by
  have:=qh t
  simp only [List.filter_cons,an]
  cases p.Not <;> simp [this]
theorem ss {c:Nat}:∀ (l:List au) (i:Nat),fU c i l=true→l.filter (fun x=>!x.Not)=l.take (c - i)
 | [],i,_=>by simp
 | p :: t,i,h=>by
  unfold fU at h
  simp only [Bool.and_eq_true,beq_iff_eq] at h
  have h1:=h.2.1
  have h2:=ss t (i+1) h.2.2
  by_cases hc:c≤i
  ·rw [decide_eq_true hc] at h1
   have e1:c - i=0:=by omega
   have e2:c - (i+1)=0:=by omega
   rw [e1,List.take_zero,List.filter_cons,h1]
   rw [e2,List.take_zero] at h2
   simpa using h2
  ·rw [decide_eq_false hc] at h1
   obtain ⟨k,hk⟩:∃ k,c - i=k+1:=⟨c - i - 1,by omega⟩
   have e2:c - (i+1)=k:=by omega
   rw [hk,List.take_succ_cons,List.filter_cons,h1,← e2,← h2]
   simp
theorem qP {l:List au} (h:gr l=true):l.filter (fun x=>!x.Not)=l.take (an l):=by
 unfold gr at h
 simp only [Bool.and_eq_true] at h
 have:=ss l 0 h.2.2
 simpa using this
def JW (n:fj):Prop:=(n.Alphas.length≤1048576∧∀ a∈n.Alphas,qv a)∧n.Chains.length≤1048576∧∀ c∈n.Chains,c.Pos.length≤1048576∧c.Neg.length≤1048576
theorem Aq {as:List aM} {a:aM} (hl:as.length≤4611686018427387900):idx (cr as a).2 (cr as a).1=some a:=by
 unfold cr
 split
 ·rename_i j h
  rw [List.findIdx?_eq_some_iff_getElem] at h
  obtain ⟨hj,h1,_⟩:=h
  simp only [ae hj]
  simpa using h1
 ·simp only
  rw [ae (by simp)]
  simp
theorem Hm {α:Type} {xs ys:List α} {i:Int} {a:α} (h:idx xs i=some a):idx (xs++ys) i=some a:=by
 obtain ⟨h0,h1,e⟩:=ab h
 unfold idx
 rw [if_pos h0,List.getElem?_append_left (by omega)]
 exact e
theorem AI (as:List aM) (a:aM):∃ u,(cr as a).2=as++u:=by
 unfold cr
 split
 ·exact ⟨[],by simp⟩
 ·exact ⟨[a],rfl⟩
theorem xv {as:List aM} {a:aM} (h:as.Nodup):(cr as a).2.Nodup:=by
 unfold cr
 split
 ·exact h
 ·rename_i hn
  rw [List.findIdx?_eq_none_iff] at hn
  refine List.nodup_append.2 ⟨h,by simp,?_⟩
  intro x hx y hy hxy
  simp at hy; subst hy; subst hxy
  have:=hn x hx
  simp at this
def At (A:List aM):List Int→List au→Prop
 | [],[]=>True
 | i :: l,p :: t=>idx A i=some (bg p)∧At A l t
 | _,_=>False
theorem At.ext {A u:List aM}:∀ {l:List Int} {t:List au},At A l t→At (A++u) l t
 | [],[],_=>trivial
 | i :: l,p :: t,h=>⟨Hm h.1,h.2.ext⟩
theorem At.snoc {A:List aM} {i:Int} {p:au} (h2:idx A i=some (bg p)):∀ {l:List Int} {t:List au},At A l t→At A (l++[i]) (t++[p])
 | [],[],_=>⟨h2,trivial⟩
 | i :: l,p :: t,h=>⟨h.1,h.2.snoc h2⟩
theorem At.len {A:List aM}:∀ {l:List Int} {t:List au},At A l t→l.length=t.length
 | [],[],_=>rfl
 | i :: l,p :: t,h=>by simp [h.2.len]
theorem At.get {A:List aM}:∀ {l:List Int} {t:List au},At A l t→∀ (k:Nat) (h1:k < l.length) (h2:k < t.length),idx A l[k]=some (bg t[k])
 | [],[],_,k,h1,_=>by simp at h1
 | i :: l,p :: t,h,0,_,_=>h.1
 | i :: l,p :: t,h,k+1,h1,h2=>h.2.get k (by simpa using h1) (by simpa using h2)
theorem t8:∀ (t:List au) (as:List aM) (p n:List Int) (pp nn:List au),as.length+t.length≤4194304→as.Nodup→At as p pp→At as n nn →
  (∃ u,(ct as p n t).1=as++u)∧(ct as p n t).1.Nodup∧At (ct as p n t).1 (ct as p n t).2.1 (pp++t.filter fun x=>!x.Not)∧At (ct as p n t).1 (ct as p n t).2.2 (nn++t.filter fun x=>x.Not)
 | [],as,p,n,pp,nn,_,hd,h1,h2=>⟨⟨[],by simp [ct]⟩,hd,by simpa [ct] using h1,by simpa [ct] using h2⟩
 | x :: t,as,p,n,pp,nn,hl,hd,h1,h2=>by
  simp only [List.length_cons] at hl
  obtain ⟨u,hu⟩:=AI as (bg x)
  have hpl:=(rA as (bg x)).1
  have hid:=Aq (as:=as) (a:=bg x) (by omega)
  have hnd:=xv (a:=bg x) hd
  have h1':At (cr as (bg x)).2 p pp:=by rw [hu]; exact h1.ext
  have h2':At (cr as (bg x)).2 n nn:=by rw [hu]; exact h2.ext
  unfold ct
  cases hx:x.Not with
  | true=>
   simp only [if_true,List.filter_cons,hx,Bool.not_true,Bool.false_eq_true,if_false]
   obtain ⟨⟨w,e⟩,g1,g2,g3⟩:=t8 t _ p (n++[(cr as (bg x)).1]) pp (nn++[x]) (by omega) hnd h1' (h2'.snoc hid)
   exact ⟨⟨u++w,by rw [e,hu,List.append_assoc]⟩,g1,g2,by simpa using g3⟩
  | false=>
   simp only [Bool.false_eq_true,if_false,List.filter_cons,hx,Bool.not_false,if_true]
   obtain ⟨⟨w,e⟩,g1,g2,g3⟩:=t8 t _ (p++[(cr as (bg x)).1]) n (pp++[x]) nn (by omega) hnd (h1'.snoc hid) h2'
   exact ⟨⟨u++w,by rw [e,hu,List.append_assoc]⟩,g1,by simpa using g2,g3⟩
def Ats (A:List aM):List bR→List af→Prop
 | [],[]=>True
 | c :: l,r :: t=>(At A c.Pos (r.Pats.filter fun x=>!x.Not)∧At A c.Neg (r.Pats.filter fun x=>x.Not))∧Ats A l t
 | _,_=>False
theorem Ats.ext {A u:List aM}:∀ {l:List bR} {t:List af},Ats A l t→Ats (A++u) l t
 | [],[],_=>trivial
 | i :: l,p :: t,h=>⟨⟨h.1.1.ext,h.1.2.ext⟩,h.2.ext⟩
theorem Ats.snoc {A:List aM} {c:bR} {r:af} (h2:At A c.Pos (r.Pats.filter fun x=>!x.Not)∧At A c.Neg (r.Pats.filter fun x=>x.Not)):∀ {l:List bR} {t:List af},Ats A l t→Ats A (l++[c]) (t++[r])
 | [],[],_=>⟨h2,trivial⟩
 | i :: l,p :: t,h=>⟨h.1,h.2.snoc h2⟩
theorem Ats.len {A:List aM}:∀ {l:List bR} {t:List af},Ats A l t→l.length=t.length
 | [],[],_=>rfl
 | i :: l,p :: t,h=>by simp [h.2.len]
theorem Ats.get {A:List aM}:∀ {l:List bR} {t:List af},Ats A l t→∀ (k:Nat) (h1:k < l.length) (h2:k < t.length),At A l[k].Pos (t[k].Pats.filter fun x=>!x.Not)∧At A l[k].Neg (t[k].Pats.filter fun x=>x.Not)
 | [],[],_,k,h1,_=>by simp at h1
 | i :: l,p :: t,h,0,_,_=>h.1
 | i :: l,p :: t,h,k+1,h1,h2=>h.2.get k (by simpa using h1) (by simpa using h2)
theorem uZ:∀ (t:List af) (as:List aM) (cs:List bR) (rr:List af),as.length+oD t≤4194304→as.Nodup→Ats as cs rr →
  (fW as cs t).Alphas.Nodup∧Ats (fW as cs t).Alphas (fW as cs t).Chains (rr++t)∧(fW as cs t).Alphas.length≤as.length+oD t
 | [],as,cs,rr,_,hd,h=>⟨hd,by simpa [fW] using h,by simp [fW,oD]⟩
 | r :: t,as,cs,rr,hl,hd,h=>by
  rw [o7] at hl
  obtain ⟨⟨u,e⟩,g1,g2,g3⟩:=t8 r.Pats as [] [] [] [] (by omega) hd trivial trivial
  have h4:=(qR r.Pats as [] []).1
  have:=uZ t (ct as [] [] r.Pats).1 (cs++[⟨(ct as [] [] r.Pats).2.1,(ct as [] [] r.Pats).2.2⟩]) (rr++[r]) (by omega) g1 (Ats.snoc ⟨by simpa using g2,by simpa using g3⟩ (by rw [e]; exact h.ext))
  unfold fW
  rw [o7]
  refine ⟨this.1,by simpa using this.2.1,by have:=this.2.2; omega⟩
theorem rd {d:bP} (h:zA d.Rules):(de d).Alphas.Nodup∧Ats (de d).Alphas (de d).Chains d.Rules∧(de d).Alphas.length≤oD d.Rules:=by
 have h2:=h.2.1
 have:=uZ d.Rules [] [] [] (by simp; omega) (by simp) trivial
 unfold de
 refine ⟨this.1,by simpa using this.2.1,by simpa using this.2.2⟩
theorem GK {A:List aM} {l:List bR} {t:List af} (h:Ats A l t):∀ c∈l,∃ r∈t,c.Pos.length+c.Neg.length=r.Pats.length:=by
 intro c hc
 obtain ⟨k,hk,rfl⟩:=List.getElem_of_mem hc
 have hk':k < t.length:=by rw [← h.len]; exact hk
 have:=h.get k hk hk'
 exact ⟨_,List.getElem_mem hk',by rw [this.1.len,this.2.len,AX]⟩
theorem tt {P:aM→Prop}:∀ (t:List af) (as:List aM) (cs:List bR),(∀ x∈as,P x)→(∀ r∈t,∀ p∈r.Pats,P (bg p))→∀ x∈(fW as cs t).Alphas,P x
 | [],as,cs,h,_=>h
 | r :: t,as,cs,h,ht=>by
  unfold fW
  exact tt t _ _ (qX r.Pats as [] [] h (ht r (by simp))) fun q hq=>ht q (by simp [hq])
theorem yD:∀ {l:List af} {r:af},r∈l→r.Pats.length≤oD l
 | x :: t,r,h=>by
  rw [o7]
  rcases List.mem_cons.1 h with rfl | h
  ·omega
  ·have:=yD h; omega
theorem tj {d:bP} (h:zA d.Rules):JW (de d):=by
 obtain ⟨h1,h2,h3⟩:=rd h
 obtain ⟨k1,k2,k3⟩:=h
 refine ⟨⟨by omega,tt d.Rules [] [] (by simp) fun r hr p hp=>wv (k3 r hr p hp)⟩,by rw [h2.len]; exact k1,fun c hc=>?_⟩
 obtain ⟨r,hr,e⟩:=GK h2 c hc
 have:=yD hr
 omega
def neg (l:List au):List au:=l.filter fun p=>p.Not
def okB (xs:List ak) (ps:List au) (r:List Int):List ax × Bool:=bd xs (ps.take r.length) r []
def mC (xs:List ak) (ns:List au) (l:List ax):List Int:=ns.map fun p=>(tJ p l xs:Int)
def nG (xs:List ak) (ps ns:List au) (row:List Int) (id:Int):List aD:=
 if (okB xs ps (row++[id])).2=true then [⟨row++[id],if row.length+1=ps.length then mC xs ns (okB xs ps (row++[id])).1 else []⟩] else []
def gE (xs:List ak) (ps ns:List au) (row ids:List Int):List aD:=ids.flatMap (nG xs ps ns row)
def jH (xs:List ak) (ps ns:List au) (id:Int) (k:Nat) (B F:List aD) (A:List Int):List aD:=
 if k=0 then gE xs ps ns [] [id] else B.flatMap (fun t=>gE xs ps ns t.Ids [id])++F.flatMap (fun t=>gE xs ps ns t.Ids A)
def mT (xs:List ak) (ps ns:List au) (id:Int) (A:Nat→List Int):Nat→List aO→List aD→List aD→List aO
 | _,[],_,_=>[]
 | k,L :: Ls,B,F=>⟨L.Toks++jH xs ps ns id k B F (A k)⟩ :: mT xs ps ns id A (k+1) Ls L.Toks (jH xs ps ns id k B F (A k))
def mU (f:aL) (l:List ax) (by_:Int):List au→List Int→List Int
 | p :: ns,x :: h=>(if (cA p f l).2=true then IntKind.i64.wrap (x+by_) else x) :: mU f l by_ ns h
 | _,h=>h
def ol (xs:List ak) (ps ns:List au) (f:aL) (by_:Int) (toks:List aD):List aD:=
 toks.map fun t=>if (okB xs ps t.Ids).2=true then ⟨t.Ids,mU f (okB xs ps t.Ids).1 by_ ns t.Hits⟩ else t
def tQ (as:List eu) (c:bR) (k:Nat):List Int:=match c.Pos[k]? with
 | some a=>(match idx as a with
  | some i=>i.L
  | none=>[])
 | none=>[]
def i9 (xs:List ak) (ps ns:List au) (f:aL) (by_:Int) (row:cq):cq:=match row.Levels[row.Levels.length - 1]? with
 | some L=>⟨row.Levels.set (row.Levels.length - 1) ⟨ol xs ps ns f by_ L.Toks⟩⟩
 | none=>row
def rj (xs:List ak) (as:List eu) (f:aL) (id:Int) (r:af) (c:bR) (row:cq):cq:=
 ⟨mT xs (pos r.Pats) (neg r.Pats) id (tQ as c) 0 (i9 xs (pos r.Pats) (neg r.Pats) f 1 row).Levels [] []⟩
def oJ (g:af→bR→cq→cq):List af→List bR→List cq→List cq
 | r :: rs,c :: cs,w :: ws=>g r c w :: oJ g rs cs ws
 | _,_,ws=>ws
def dB (f:aL) (id:Int):List aM→List eu→List eu
 | a :: as,i :: is=>(if lO a f=true then ⟨i.L++[id]⟩ else i) :: dB f id as is
 | _,is=>is
def zT (d:bP) (n:fj) (m:dI) (s:ah) (id:Int):dI:=
 ⟨dB (bw s.Items id).1 id n.Alphas m.Alphas,oJ (rj s.Items (dB (bw s.Items id).1 id n.Alphas m.Alphas) (bw s.Items id).1 id) d.Rules n.Chains m.Rules⟩
theorem pB (xs:List ak) (ps ns:List au) (row:List Int):∀ (ids:List Int),(gE xs ps ns row ids).length≤ids.length
 | []=>by simp [gE]
 | v :: ids=>by
  have h1:=pB xs ps ns row ids
  unfold gE at h1 ⊢
  rw [List.flatMap_cons,List.length_append,List.length_cons]
  have h2:(nG xs ps ns row v).length≤1:=by unfold nG; split <;> simp
  omega
theorem pW (xs:List ak) (ps ns:List au) (ids:List Int):∀ (B:List aD),(B.flatMap fun t=>gE xs ps ns t.Ids ids).length≤B.length*ids.length
 | []=>by simp
 | t :: B=>by
  have h1:=pW xs ps ns ids B
  have h2:=pB xs ps ns t.Ids ids
  rw [List.flatMap_cons,List.length_append,List.length_cons,Nat.succ_mul]; omega
theorem uD {xs:List ak} {ps ns:List au} {row ids:List Int}:∀ t∈gE xs ps ns row ids,t.Ids.length=row.length+1∧t.Hits.length≤ns.length:=by
 intro t ht
 unfold gE at ht
 obtain ⟨v,_,h⟩:=List.mem_flatMap.1 ht
 unfold nG at h
 split at h
 ·simp only [List.mem_singleton] at h
  subst h
  refine ⟨by simp,?_⟩
  simp only
  split
  ·simp [mC]
  ·simp
 ·cases h
theorem uz (f:aL) (l:List ax) (b:Int):∀ (ns:List au) (h:List Int),(mU f l b ns h).length=h.length
 | p :: ns,x :: h=>by simp [mU,uz f l b ns h]
 | [],h=>by simp [mU]
 | p :: ns,[]=>by simp [mU]
theorem yh {xs:List ak} {ps ns:List au} {f:aL} {b:Int} (toks:List aD):(ol xs ps ns f b toks).map (·.Ids)=toks.map (·.Ids):=by
 unfold ol
 rw [List.map_map]
 apply List.map_congr_left
 intro t _
 simp only [Function.comp]
 split <;> rfl
theorem yz {xs:List ak} {ps ns:List au} {f:aL} {b:Int} (toks:List aD):(ol xs ps ns f b toks).length=toks.length:=by simp [ol]
theorem qJ (xs:List ak) (ps:List au) (ids:List Int):(okB xs ps ids).1.length≤d9 ps:=by
 have h1:=sT (xs:=xs) (ps.take ids.length) ids []
 have h2:d9 (ps.take ids.length)≤d9 ps:=qt _ _
 unfold okB
 simp at h1
 omega
structure SzS (r:af) (s:ah):Prop where
 pl:r.Pats.length≤1048576
 sa:d9 r.Pats≤1048576
 pa:∀ p∈r.Pats,p.Args.length≤1048576
 sl:s.Items.length≤1048576
 fl:∀ x∈s.Items,x.F.Fields.length≤1048576
 fp:pos r.Pats=r.Pats.take (an r.Pats)
theorem AW {N:Nat} (hN:1099000000000≤N) (ps:List au) (s:ah) (ids:List Int) (ha:d9 ps≤1048576) (hp:∀ p∈ps,p.Args.length≤1048576) (hs:s.Items.length≤1048576) (hx:∀ x∈s.Items,x.F.Fields.length≤1048576) (hi:ids.length≤1048576) (he:ids.length≤ps.length) :
  gw N ps s ids=some (bd s.Items (ps.take ids.length) ids []):=by
 unfold gw
 have lp:∀ (n i:Nat) (l:List ax),i≤ids.length→ids.length - i < n→l.length+d9 (ps.drop i)≤1048576→dx N ps s ids n l i=some (bd s.Items ((ps.take ids.length).drop i) (ids.drop i) l):=by
  intro n
  induction n with
  | zero=>intro i _ _ h; omega
  | succ n ih=>
   intro i l h1 hn hl
   by_cases hlt:i < ids.length
   ·have c1:decide ((i:Int) < (ids.length:Int))=true:=decide_eq_true (by omega)
    have hlt':i < ps.length:=by omega
    have hlt2:i < (ps.take ids.length).length:=by rw [List.length_take]; omega
    rw [List.drop_eq_getElem_cons hlt'] at hl
    rw [eI] at hl
    have hml:=kJ ps[i] (bw s.Items ids[i]).1 l
    rw [List.drop_eq_getElem_cons hlt,List.drop_eq_getElem_cons hlt2,bd,List.getElem_take]
    simp only [dx,c1,if_true,ae hlt,ae hlt',Option.bind_some,tz hN s _ hs hx,tA hN ps[i] _ l (hp _ (List.getElem_mem hlt')) (show l.length≤2147483648 by omega),wr1 i (by omega)]
    cases (bw s.Items ids[i]).2 with
    | false=>simp
    | true=>
     cases (cA ps[i] (bw s.Items ids[i]).1 l).2 with
     | false=>simp
     | true=>
      simp only [Bool.not_true,Bool.false_eq_true,if_false,and_self,if_true]
      exact ih (i+1) _ (by omega) (by omega) (by omega)
   ·have c1:decide ((i:Int) < (ids.length:Int))=false:=decide_eq_false (by omega)
    simp only [dx,c1,Bool.false_eq_true,if_false]
    rw [List.drop_of_length_le (show (ps.take ids.length).length≤i by rw [List.length_take]; omega),List.drop_of_length_le (show ids.length≤i by omega)]; rfl
 have:=lp N 0 [] (by omega) (by omega) (by simpa using ha)
 simpa using this
theorem FC {N:Nat} (hN:1099000000000≤N) (p:au) (s:ah) (l:List ax) (hp:p.Args.length≤1048576) (hs:s.Items.length≤1048576) (hb:l.length≤2147483648):lI N p s l=some (tJ p l s.Items:Int):=by
 unfold lI
 have:=lp' hN s.Items (by omega) (eO N p s l) (fun t k=>some (k+(tJ p l t:Int))) (fun k t=>0≤k∧k+t.length≤1048576) (0:Int) (by simp; omega) (fun n k i x t h1 h2 h3 h4 h5 h6 hI ih=>by
  simp only [List.length_cons] at hI
  simp only [eO,h5,if_true,h4,Option.bind_some,tA hN p x.F l hp hb,h6]
  unfold tJ at ih ⊢
  rw [List.countP_cons]
  cases (cA p x.F l).2 with
  | true=>
   rw [wr (n:=k+1) (by omega) (by omega)]
   simp only [if_true,ih (k+1) (by omega)]; congr 1; omega
  | false=>simpa using ih k (by omega)) (fun n k i h1 h2 hI=>by simp only [eO,h2,Bool.false_eq_true,if_false,tJ]; simp)
 simpa using this
structure SzG (g:cQ):Prop where
 pl:g.pos.length≤1048576
 sa:d9 g.pos≤1048576
 pa:∀ p∈g.pos,p.Args.length≤1048576
 nl:g.neg.length≤1048576
 na:∀ p∈g.neg,p.Args.length≤1048576
 sl:g.s.Items.length≤1048576
 fl:∀ x∈g.s.Items,x.F.Fields.length≤1048576
theorem DP {N:Nat} (hN:1099000000000≤N) (g:cQ) (hz:SzG g) (s1:List aD) (s2:Int) (K:List aD→Int→Option (List aD)) (x3:List Int) (x4:List ax × Bool) (hb:x4.1.length≤2147483648) :
  cC N g s1 s2 K x3 x4 N [] 0=cB N s1 s2 K x3 (mC g.s.Items g.neg x4.1):=by
 have hnl:=hz.nl
 refine (lp' hN g.neg (by omega) (fun n (u:List Int) i=>cC N g s1 s2 K x3 x4 n u i) (fun t u=>cB N s1 s2 K x3 (u++mC g.s.Items t x4.1)) (fun u t=>u.length+t.length≤1048576) [] (by simpa using hz.nl) (fun n u i p t g1 g2 g3 g4 g5 g6 gI gh=>?_) (fun n u i g1 g2 gI=>?_)).trans (by simp)
 ·simp only [List.length_cons] at gI
  simp only [cC,g5,if_true,g4,Option.bind_some,FC hN p g.s x4.1 (hz.na p g2) hz.sl hb,dG (show u.length+[((tJ p x4.1 g.s.Items:Nat):Int)].length≤4294967296 by simp; omega),g6]
  rw [gh _ (by simp; omega)]
  simp [mC]
 ·simp only [cC,g2,Bool.false_eq_true,if_false]; simp [mC]
theorem wJ {N:Nat} (hN:1099000000000≤N) (g:cQ) (hz:SzG g) (row ids:List Int) (hr:row.length+1≤g.pos.length) (hi:ids.length≤4294967296) :
  dT N g row ids=some (gE g.s.Items g.pos g.neg row ids):=by
 have hpl:=hz.pl
 unfold dT
 refine (lp' hN ids hi (fun n (u:List aD) i=>bD N g row ids n u i) (fun t u=>some (u++gE g.s.Items g.pos g.neg row t)) (fun u t=>u.length+t.length≤4294967296) [] (by simpa using hi) (fun n u i v t g1 g2 g3 g4 g5 g6 gI gh=>?_) (fun n u i g1 g2 gI=>?_)).trans (by simp)
 ·simp only [List.length_cons] at gI
  have hrow:(row++[v]).length=row.length+1:=by simp
  have hbl:=qJ g.s.Items g.pos (row++[v])
  have hsa:=hz.sa
  have e0:bd g.s.Items (g.pos.take (row++[v]).length) (row++[v]) []=okB g.s.Items g.pos (row++[v]):=rfl
  simp only [bD,g5,if_true,g4,Option.bind_some,bZ,gZ (show row.length≤4294967296 by omega),dG (show row.length+[v].length≤4294967296 by simp; omega),
   AW hN g.pos g.s (row++[v]) hz.sa hz.pa hz.sl hz.fl (by omega) (by omega),e0,gE,List.flatMap_cons]
  have hlong:(t.flatMap fun b=>nG g.s.Items g.pos g.neg row b)=gE g.s.Items g.pos g.neg row t:=rfl
  cases hok:(okB g.s.Items g.pos (row++[v])).2 with
  | false=>
   have e1:nG g.s.Items g.pos g.neg row v=[]:=by unfold nG; rw [hok]; simp
   simp only [Bool.not_false,if_true,g6,e1,List.nil_append]
   exact gh u (by omega)
  | true=>
   simp only [Bool.not_true,Bool.false_eq_true,if_false]
   by_cases hl:row.length+1=g.pos.length
   ·have c1:decide (((row++[v]).length:Int)=(g.pos.length:Int))=true:=decide_eq_true (by rw [hrow]; omega)
    have e1:nG g.s.Items g.pos g.neg row v=[⟨row++[v],mC g.s.Items g.neg (okB g.s.Items g.pos (row++[v])).1⟩]:=by unfold nG; rw [hok,if_pos rfl,if_pos hl]
    simp only [c1,if_true,DP hN g hz u _ _ _ _ (show (okB g.s.Items g.pos (row++[v])).1.length≤2147483648 by omega),cB,dG (show u.length+[(⟨row++[v],mC g.s.Items g.neg (okB g.s.Items g.pos (row++[v])).1⟩:aD)].length≤4294967296 by simp; omega),Option.bind_some,g6,e1]
    rw [gh _ (by simp; omega),List.append_assoc]; rfl
   ·have c1:decide (((row++[v]).length:Int)=(g.pos.length:Int))=false:=decide_eq_false (by rw [hrow]; omega)
    have e1:nG g.s.Items g.pos g.neg row v=[⟨row++[v],[]⟩]:=by unfold nG; rw [hok,if_pos rfl,if_neg hl]
    simp only [c1,Bool.false_eq_true,if_false,cB,dG (show u.length+[(⟨row++[v],[]⟩:aD)].length≤4294967296 by simp; omega),Option.bind_some,g6,e1]
    rw [gh _ (by simp; omega),List.append_assoc]; rfl
 ·simp only [bD,g2,Bool.false_eq_true,if_false]; simp [gE]
def ve (A:Nat→Nat):Nat→List Nat→Nat→Nat→Prop
 | _,[],_,_=>True
 | k,l :: ls,b,f=>(if k=0 then 1 else b+f*A k)+l≤4294967296∧ve A (k+1) ls l (if k=0 then 1 else b+f*A k)
theorem y9 {A:Nat→Nat}:∀ {ls:List Nat} {k b f b' f':Nat},ve A k ls b f→b'≤b→f'≤f→ve A k ls b' f'
 | [],_,_,_,_,_,_,_,_=>trivial
 | l :: ls,k,b,f,b',f',h,hb,hf=>by
  have hm:(if k=0 then 1 else b'+f'*A k)≤(if k=0 then 1 else b+f*A k):=by
   split
   ·exact Nat.le_refl _
   ·exact Nat.add_le_add hb (Nat.mul_le_mul_right _ hf)
  exact ⟨Nat.le_trans (Nat.add_le_add_right hm l) h.1,y9 h.2 (Nat.le_refl _) hm⟩
theorem yK (xs:List ak) (ps ns:List au) (id:Int) (k:Nat) (B F:List aD) (A:List Int):(jH xs ps ns id k B F A).length≤(if k=0 then 1 else B.length+F.length*A.length):=by
 unfold jH
 split
 ·exact pB xs ps ns [] [id]
 ·have h1:=pW xs ps ns [id] B
  have h2:=pW xs ps ns A F
  simp only [List.length_append,List.length_cons,List.length_nil,Nat.zero_add,Nat.mul_one] at h1 h2 ⊢
  omega
theorem Du {xs:List ak} {ps ns:List au} {id:Int} {k:Nat} {B F:List aD} {A:List Int} (hB:∀ t∈B,t.Ids.length=k) (hF:∀ t∈F,t.Ids.length=k):∀ t∈jH xs ps ns id k B F A,t.Ids.length=k+1:=by
 intro t ht
 unfold jH at ht
 split at ht
 ·rename_i hk
  rw [(uD t ht).1,hk]; rfl
 ·rcases List.mem_append.1 ht with h | h
  ·obtain ⟨u,hu,h⟩:=List.mem_flatMap.1 h
   rw [(uD t h).1,hB u hu]
  ·obtain ⟨u,hu,h⟩:=List.mem_flatMap.1 h
   rw [(uD t h).1,hF u hu]
theorem Hw {N:Nat} (hN:1099000000000≤N) (g:cQ) (hz:SzG g) (s1:List aO) (F:List aD) (k:Nat) (K:List aO→List aD→List aD→Int→Option (List aO)) (a:Int) (A:eu) (ha:idx g.chain.Pos (k:Int)=some a) (hA:idx g.alphas a=some A) (hk:k+1≤g.pos.length)
  (hF:∀ t∈F,t.Ids.length=k) (u0:List aD) (hl:u0.length+F.length*A.L.length≤4294967296) (hAl:A.L.length≤4294967296) (hFl:F.length≤4294967296) :
  cS N g s1 F (k:Int) K N u0 0=co N s1 (k:Int) K (u0++F.flatMap fun t=>gE g.s.Items g.pos g.neg t.Ids A.L):=by
 refine lp' hN F hFl (fun n (u:List aD) i=>cS N g s1 F (k:Int) K n u i) (fun t u=>co N s1 (k:Int) K (u++t.flatMap fun t=>gE g.s.Items g.pos g.neg t.Ids A.L)) (fun u t=>u.length+t.length*A.L.length≤4294967296) u0 hl (fun n u i v t g1 g2 g3 g4 g5 g6 gI gh=>?_) (fun n u i g1 g2 gI=>?_)
 ·rw [List.length_cons,Nat.succ_mul] at gI
  have h1:=pB g.s.Items g.pos g.neg v.Ids A.L
  simp only [cS,g5,if_true,g4,Option.bind_some,ha,hA,wJ hN g hz v.Ids A.L (by rw [hF v g2]; exact hk) hAl,dG (show u.length+(gE g.s.Items g.pos g.neg v.Ids A.L).length≤4294967296 by omega),g6]
  rw [gh _ (by rw [List.length_append]; omega),List.flatMap_cons,List.append_assoc]
 ·simp only [cS,g2,Bool.false_eq_true,if_false]; simp
theorem Hr {N:Nat} (hN:1099000000000≤N) (g:cQ) (hz:SzG g) (s1:List aO) (B F:List aD) (k:Nat) (K:List aO→List aD→List aD→Int→Option (List aO)) (a:Int) (A:eu) (ha:idx g.chain.Pos (k:Int)=some a) (hA:idx g.alphas a=some A) (hk:k+1≤g.pos.length)
  (hB:∀ t∈B,t.Ids.length=k) (hF:∀ t∈F,t.Ids.length=k) (hl:B.length+F.length*A.L.length≤4294967296) (hAl:A.L.length≤4294967296) (hFl:F.length≤4294967296) :
  cV N g s1 B F (k:Int) K N [] 0=co N s1 (k:Int) K ((B.flatMap fun t=>gE g.s.Items g.pos g.neg t.Ids [g.id])++F.flatMap fun t=>gE g.s.Items g.pos g.neg t.Ids A.L):=by
 refine (lp' hN B (by omega) (fun n (u:List aD) i=>cV N g s1 B F (k:Int) K n u i) (fun t u=>co N s1 (k:Int) K (u++(t.flatMap fun t=>gE g.s.Items g.pos g.neg t.Ids [g.id])++F.flatMap fun t=>gE g.s.Items g.pos g.neg t.Ids A.L)) (fun u t=>u.length+t.length+F.length*A.L.length≤4294967296) [] (by simpa using hl) (fun n u i v t g1 g2 g3 g4 g5 g6 gI gh=>?_) (fun n u i g1 g2 gI=>?_)).trans (by simp)
 ·rw [List.length_cons] at gI
  have h1:=pB g.s.Items g.pos g.neg v.Ids [g.id]
  simp only [List.length_cons,List.length_nil,Nat.zero_add] at h1
  simp only [cV,g5,if_true,g4,Option.bind_some,wJ hN g hz v.Ids [g.id] (by rw [hB v g2]; exact hk) (by simp),dG (show u.length+(gE g.s.Items g.pos g.neg v.Ids [g.id]).length≤4294967296 by omega),g6]
  rw [gh _ (by rw [List.length_append]; omega),List.flatMap_cons]
  simp only [List.append_assoc]
 ·simp only [cV,g2,Bool.false_eq_true,if_false]
  simp only [List.length_nil,Nat.add_zero] at gI
  rw [Hw hN g hz s1 F k K a A ha hA hk hF u gI hAl hFl]; simp
theorem CG {N:Nat} (hN:1099000000000≤N) (g:cQ) (hz:SzG g) (p1:List aO) (A:Nat→List Int) (hp:p1.length≤g.pos.length) (hA:∀ k,k < p1.length→∃ a i,idx g.chain.Pos (k:Int)=some a∧idx g.alphas a=some i∧i.L=A k) (hAl:∀ k,(A k).length≤4294967296) :
  ∀ (rest:List aO) (n:Nat) (done:List aO) (B F:List aD),rest.length < n→done.length+rest.length=p1.length→(∀ t∈B,t.Ids.length=done.length)→(∀ t∈F,t.Ids.length=done.length)→(∀ i L,rest[i]?=some L→∀ t∈L.Toks,t.Ids.length=done.length+1+i) →
   F.length≤4294967296→ve (fun k=>(A k).length) done.length (rest.map (·.Toks.length)) B.length F.length→bG N g p1 n (done++rest) B F (done.length:Int)=some (done++mT g.s.Items g.pos g.neg g.id A done.length rest B F)
 | [],n,done,B,F,hn,hd,hB,hF,hL,hFl,hf=>by
  obtain ⟨n,rfl⟩:∃ m,n=m+1:=⟨n - 1,by simp at hn; omega⟩
  simp only [List.length_nil,Nat.add_zero] at hd
  have c1:decide ((done.length:Int) < (p1.length:Int))=false:=decide_eq_false (by omega)
  simp only [bG,c1,Bool.false_eq_true,if_false,mT]
 | L :: Ls,n,done,B,F,hn,hd,hB,hF,hL,hFl,hf=>by
  obtain ⟨n,rfl⟩:∃ m,n=m+1:=⟨n - 1,by omega⟩
  simp only [List.length_cons] at hn hd
  obtain ⟨hf1,hf2⟩:=hf
  simp only at hf1 hf2
  have hpl:=hz.pl
  have c1:decide ((done.length:Int) < (p1.length:Int))=true:=decide_eq_true (by omega)
  obtain ⟨a,i,ha,hi,hiA⟩:=hA done.length (by omega)
  have hml:=yK g.s.Items g.pos g.neg g.id done.length B F (A done.length)
  have hmi:=Du (xs:=g.s.Items) (ps:=g.pos) (ns:=g.neg) (id:=g.id) (A:=A done.length) hB hF
  -- the end of a round
  have key:∀ M,M=jH g.s.Items g.pos g.neg g.id done.length B F (A done.length)→co N (done++L :: Ls) (done.length:Int) (bG N g p1 n) M=some (done++mT g.s.Items g.pos g.neg g.id A done.length (L :: Ls) B F):=by
   intro M hM
   subst hM
   have e1:idx (done++L :: Ls) (done.length:Int)=some L:=by rw [vE]; simp
   have e2:(done++L :: Ls).set ((done.length:Int)).toNat ⟨L.Toks++jH g.s.Items g.pos g.neg g.id done.length B F (A done.length)⟩=(done++[⟨L.Toks++jH g.s.Items g.pos g.neg g.id done.length B F (A done.length)⟩])++Ls:=by
    rw [Int.toNat_natCast,List.set_append_right _ _ (Nat.le_refl _),Nat.sub_self,List.set_cons_zero,List.append_assoc]; rfl
   simp only [co,e1,Option.bind_some,dV,gZ (show L.Toks.length≤4294967296 by omega),dG (show L.Toks.length+(jH g.s.Items g.pos g.neg g.id done.length B F (A done.length)).length≤4294967296 by omega),e2,wr1 done.length (by omega)]
   have:=CG hN g hz p1 A hp hA hAl Ls n (done++[⟨L.Toks++jH g.s.Items g.pos g.neg g.id done.length B F (A done.length)⟩]) L.Toks (jH g.s.Items g.pos g.neg g.id done.length B F (A done.length)) (by omega) (by simp; omega)
    (fun t ht=>by have:=hL 0 L rfl t ht; simpa using this) (fun t ht=>by simpa using hmi t ht) (fun j M hj t ht=>by have:=hL (j+1) M (by simpa using hj) t ht; simp only [List.length_append,List.length_cons,List.length_nil]; omega) (by omega)
    (by simp only [List.length_append,List.length_cons,List.length_nil]; exact y9 hf2 (Nat.le_refl _) hml)
   simp only [List.length_append,List.length_cons,List.length_nil,Nat.zero_add] at this
   rw [this,List.append_assoc]; rfl
  simp only [bG,c1,if_true]
  by_cases h0:done.length=0
  ·have c2:decide ((done.length:Int)=0)=true:=decide_eq_true (by omega)
   simp only [c2,if_true,wJ hN g hz [] [g.id] (by simp; omega) (by simp),Option.bind_some]
   exact key _ (by unfold jH; rw [if_pos h0])
  ·have c2:decide ((done.length:Int)=0)=false:=decide_eq_false (by omega)
   rw [if_neg h0] at hf1
   simp only [c2,Bool.false_eq_true,if_false]
   rw [Hr hN g hz _ B F done.length _ a i ha hi (by omega) hB hF (by rw [hiA]; omega) (by rw [hiA]; exact hAl _) hFl,hiA]
   exact key _ (by unfold jH; rw [if_neg h0])
theorem JE {N:Nat} (hN:1099000000000≤N) (g:cQ) (hz:SzG g) (ls:List aO) (A:Nat→List Int) (hp:ls.length≤g.pos.length) (hA:∀ k,k < ls.length→∃ a i,idx g.chain.Pos (k:Int)=some a∧idx g.alphas a=some i∧i.L=A k) (hAl:∀ k,(A k).length≤4294967296)
  (hL:∀ i L,ls[i]?=some L→∀ t∈L.Toks,t.Ids.length=i+1) (hf:ve (fun k=>(A k).length) 0 (ls.map (·.Toks.length)) 0 0):gt N g ls=some (mT g.s.Items g.pos g.neg g.id A 0 ls [] []):=by
 have hpl:=hz.pl
 have:=CG hN g hz ls A hp hA hAl ls N [] [] [] (by omega) (by simp) (by simp) (by simp) (fun i L h t ht=>by rw [hL i L h t ht]; simp; omega) (by simp) (by simpa using hf)
 unfold gt
 simpa using this
theorem vI {α:Type} (d:List α) (x y:α) (t:List α):(d++x :: t).set d.length y=(d++[y])++t:=by
 rw [List.set_append_right _ _ (Nat.le_refl _),Nat.sub_self,List.set_cons_zero,List.append_assoc]; rfl
theorem ng {α:Type} (d:List α) (x:α) (t:List α):idx (d++x :: t) (d.length:Int)=some x:=by rw [vE]; simp
theorem AK {N:Nat} (hN:1099000000000≤N) (g:cQ) (hz:SzG g) (by_:Int) (x1:aL × Bool) (s1:List aD) (s2:Int) (K:List aD→Int→Option (List aD)) (x2:aD) (x3:List ax × Bool) (hb:x3.1.length≤2147483648) :
  ∀ (ns:List au) (n:Nat) (dn:List au) (dh h:List Int),ns.length < n→g.neg=dn++ns→dh.length=dn.length→h.length=ns.length →
   cw N g by_ x1 s1 s2 K x2 x3 n (dh++h) (dn.length:Int)=K (s1.set s2.toNat ⟨x2.Ids,dh++mU x1.1 x3.1 by_ ns h⟩) (IntKind.i64.wrap (s2+1))
 | [],n,dn,dh,h,hn,hg,hd,hh=>by
  obtain ⟨n,rfl⟩:∃ m,n=m+1:=⟨n - 1,by simp at hn; omega⟩
  have c1:decide ((dn.length:Int) < (g.neg.length:Int))=false:=decide_eq_false (by rw [hg]; simp)
  simp only [cw,c1,Bool.false_eq_true,if_false,mU]
 | p :: ns,n,dn,dh,[],hn,hg,hd,hh=>by simp at hh
 | p :: ns,n,dn,dh,x :: h,hn,hg,hd,hh=>by
  obtain ⟨n,rfl⟩:∃ m,n=m+1:=⟨n - 1,by omega⟩
  simp only [List.length_cons] at hn hh
  have hnl:=hz.nl
  have hl:g.neg.length=dn.length+(ns.length+1):=by rw [hg]; simp
  have c1:decide ((dn.length:Int) < (g.neg.length:Int))=true:=decide_eq_true (by omega)
  have e1:idx g.neg (dn.length:Int)=some p:=by rw [hg]; exact ng _ _ _
  have e2:idx (dh++x :: h) (dn.length:Int)=some x:=by rw [← hd]; exact ng _ _ _
  have hp:p∈g.neg:=by rw [hg]; simp
  simp only [cw,c1,if_true,e1,Option.bind_some,tA hN p x1.1 x3.1 (hz.na p hp) hb,wr1 dn.length (by omega),mU]
  have ih:=AK hN g hz by_ x1 s1 s2 K x2 x3 hb ns n (dn++[p])
  simp only [List.length_append,List.length_cons,List.length_nil,Nat.zero_add] at ih
  cases hm:(cA p x1.1 x3.1).2 with
  | true=>
   simp only [if_true,e2,Option.bind_some]
   have e3:(dh++x :: h).set ((dn.length:Int)).toNat (IntKind.i64.wrap (x+by_))=(dh++[IntKind.i64.wrap (x+by_)])++h:=by rw [Int.toNat_natCast,← hd]; exact vI _ _ _ _
   rw [e3,ih (dh++[IntKind.i64.wrap (x+by_)]) h (by omega) (by rw [hg]; simp) (by simp [hd]) (by omega)]
   simp
  | false=>
   simp only [Bool.false_eq_true,if_false]
   have:=ih (dh++[x]) h (by omega) (by rw [hg]; simp) (by simp [hd]) (by omega)
   simp only [List.append_assoc,List.cons_append,List.nil_append] at this
   exact this
theorem Au {N:Nat} (hN:1099000000000≤N) (g:cQ) (hz:SzG g) (p1:List aD) (by_:Int) (x1:aL × Bool) (hl:p1.length≤4294967296):∀ (ts:List aD) (n:Nat) (d:List aD),ts.length < n→d.length+ts.length=p1.length→(∀ t∈ts,t.Ids.length≤g.pos.length∧t.Hits.length=g.neg.length) →
  bI N g p1 by_ x1 n (d++ts) (d.length:Int)=some (d++ol g.s.Items g.pos g.neg x1.1 by_ ts)
 | [],n,d,hn,hd,ht=>by
  obtain ⟨n,rfl⟩:∃ m,n=m+1:=⟨n - 1,by simp at hn; omega⟩
  simp only [List.length_nil,Nat.add_zero] at hd
  have c1:decide ((d.length:Int) < (p1.length:Int))=false:=decide_eq_false (by omega)
  simp only [bI,c1,Bool.false_eq_true,if_false,ol,List.map_nil]
 | t :: ts,n,d,hn,hd,ht=>by
  obtain ⟨n,rfl⟩:∃ m,n=m+1:=⟨n - 1,by omega⟩
  simp only [List.length_cons] at hn hd
  have hpl:=hz.pl
  have hsa:=hz.sa
  have c1:decide ((d.length:Int) < (p1.length:Int))=true:=decide_eq_true (by omega)
  obtain ⟨h1,h2⟩:=ht t (by simp)
  have hbl:=qJ g.s.Items g.pos t.Ids
  have e0:bd g.s.Items (g.pos.take t.Ids.length) t.Ids []=okB g.s.Items g.pos t.Ids:=rfl
  have ih:=fun y=>Au hN g hz p1 by_ x1 hl ts n (d++[y]) (by omega) (by simp; omega) (fun u hu=>ht u (by simp [hu]))
  simp only [List.length_append,List.length_cons,List.length_nil,Nat.zero_add] at ih
  simp only [bI,c1,if_true,ng,Option.bind_some,AW hN g.pos g.s t.Ids hz.sa hz.pa hz.sl hz.fl (by omega) h1,e0,wr1 d.length (by omega)]
  have e4:ol g.s.Items g.pos g.neg x1.1 by_ (t :: ts)=(if (okB g.s.Items g.pos t.Ids).2=true then ⟨t.Ids,mU x1.1 (okB g.s.Items g.pos t.Ids).1 by_ g.neg t.Hits⟩ else t) :: ol g.s.Items g.pos g.neg x1.1 by_ ts:=rfl
  rw [e4]
  cases hok:(okB g.s.Items g.pos t.Ids).2 with
  | false=>
   simp only [Bool.not_false,if_true,Bool.false_eq_true,if_false]
   have:=ih t
   simp only [List.append_assoc,List.cons_append,List.nil_append] at this
   exact this
  | true=>
   simp only [Bool.not_true,Bool.false_eq_true,if_false,if_true]
   have h3:=AK hN g hz by_ x1 (d++t :: ts) (d.length:Int) (bI N g p1 by_ x1 n) t (okB g.s.Items g.pos t.Ids) (by omega) g.neg N [] [] t.Hits (by have:=hz.nl; omega) rfl rfl h2
   simp only [List.nil_append,List.length_nil,Int.natCast_zero,Int.toNat_natCast] at h3
   have h3':cw N g by_ x1 (d++t :: ts) (d.length:Int) (bI N g p1 by_ x1 n) t (okB g.s.Items g.pos t.Ids) N t.Hits 0=_:=h3
   rw [h3',vI,wr1 d.length (by omega),ih,List.append_assoc]; rfl
theorem GG {N:Nat} (hN:1099000000000≤N) (g:cQ) (hz:SzG g) (ts:List aD) (by_:Int) (hl:ts.length≤4294967296) (ht:∀ t∈ts,t.Ids.length≤g.pos.length∧t.Hits.length=g.neg.length) :
  fO N g ts by_=some (ol g.s.Items g.pos g.neg (bw g.s.Items g.id).1 by_ ts):=by
 unfold fO
 rw [tz hN g.s g.id hz.sl hz.fl,Option.bind_some]
 have:=Au hN g hz ts by_ (bw g.s.Items g.id) hl ts N [] (by omega) (by simp) ht
 simpa using this
structure ER (as:List eu) (r:af) (c:bR) (row:cq):Prop where
 ne:1≤row.Levels.length
 ll:row.Levels.length=(pos r.Pats).length
 ids:∀ i L,row.Levels[i]?=some L→∀ t∈L.Toks,t.Ids.length=i+1
 hit:∀ L,row.Levels[row.Levels.length - 1]?=some L→∀ t∈L.Toks,t.Hits.length=(neg r.Pats).length
 at_:∀ k,k < row.Levels.length→∃ a i,idx c.Pos (k:Int)=some a∧idx as a=some i
 fit:ve (fun k=>(tQ as c k).length) 0 (row.Levels.map (·.Toks.length)) 0 0
 al:∀ k,(tQ as c k).length≤4294967296
theorem Ce {A:Nat→Nat}:∀ {ls:List Nat} {k b f:Nat},ve A k ls b f→∀ l∈ls,l≤4294967296
 | [],_,_,_,_,_,h=>by cases h
 | l :: ls,k,b,f,h,x,hx=>by
  rcases List.mem_cons.1 hx with rfl | hx
  ·have:=h.1; omega
  ·exact Ce h.2 x hx
theorem Fi {row:cq} {L:aO} {M:List aD} {i:Nat} (hL:row.Levels[i]?=some L) (hM:M.length=L.Toks.length):(row.Levels.set i ⟨M⟩).map (·.Toks.length)=row.Levels.map (·.Toks.length):=by
 rw [List.map_set]
 have:(row.Levels.map (·.Toks.length))[i]?=some L.Toks.length:=by rw [List.getElem?_map,hL]; rfl
 apply List.ext_getElem?
 intro j
 rw [List.getElem?_set]
 split
 ·rename_i e; subst e
  split
  ·rw [this,← hM]
  ·rename_i hlt; rw [List.length_map] at hlt; have:=(List.getElem?_eq_some_iff.1 hL).1; omega
 ·rfl
theorem yB {as:List eu} {c:bR} {k:Nat} {a:Int} {i:eu} (h1:idx c.Pos (k:Int)=some a) (h2:idx as a=some i):i.L=tQ as c k:=by
 unfold tQ
 rw [vE] at h1
 rw [h1]
 simp only [h2]
structure SzR (r:af):Prop where
 pl:r.Pats.length≤1048576
 sa:d9 r.Pats≤1048576
 pa:∀ p∈r.Pats,p.Args.length≤1048576
theorem Dh {r:af} {c:bR} {as:List eu} {s:ah} {id:Int} (hr:SzR r) (hs:s.Items.length≤1048576) (hx:∀ x∈s.Items,x.F.Fields.length≤1048576):SzG ⟨pos r.Pats,neg r.Pats,c,as,s,id⟩:=by
 have h1:=ov r.Pats
 have h2:=hr.sa
 have h3:(pos r.Pats).length≤r.Pats.length:=List.length_filter_le _ _
 have h4:(neg r.Pats).length≤r.Pats.length:=List.length_filter_le _ _
 have h5:=hr.pl
 exact ⟨by simp only; omega,by simp only; omega,fun p hp=>hr.pa p (List.mem_filter.1 hp).1,by simp only; omega,fun p hp=>hr.pa p (List.mem_filter.1 hp).1,hs,hx⟩
theorem FH (l:List au):(l.filter fun p=>p.Not == true)=neg l:=by
 unfold neg; congr 1; funext p; cases p.Not <;> rfl
theorem KH {N:Nat} (hN:1099000000000≤N) (r:af) (c:bR) (as:List eu) (s:ah) (id:Int) (row:cq) (hr:SzR r) (hs:s.Items.length≤1048576) (hx:∀ x∈s.Items,x.F.Fields.length≤1048576) (ok:ER as r c row) {β:Type} (K:List aO→Option β) :
  ((idx row.Levels (IntKind.i64.wrap ((row.Levels.length:Int) - 1))).bind fun x8=>((fO N ⟨pos r.Pats,neg r.Pats,c,as,s,id⟩ x8.Toks 1).bind fun x9=>((gt N ⟨pos r.Pats,neg r.Pats,c,as,s,id⟩ (row.Levels.set (IntKind.i64.wrap ((row.Levels.length:Int) - 1)).toNat (⟨x9⟩:aO))).bind fun x10=>K x10)))
   = K (rj s.Items as (bw s.Items id).1 id r c row).Levels:=by
 have hg:=Dh (c:=c) (as:=as) (s:=s) (id:=id) hr hs hx
 have hne:=ok.ne
 have hll:=ok.ll
 have hpl:=hg.pl
 simp only at hpl
 have ew:IntKind.i64.wrap ((row.Levels.length:Int) - 1)=((row.Levels.length - 1:Nat):Int):=by
  rw [show ((row.Levels.length:Int) - 1)=((row.Levels.length - 1:Nat):Int) by omega]
  exact wr (by omega) (by omega)
 have hlt:row.Levels.length - 1 < row.Levels.length:=by omega
 have hL:row.Levels[row.Levels.length - 1]?=some row.Levels[row.Levels.length - 1]:=List.getElem?_eq_getElem hlt
 have hlen:(row.Levels[row.Levels.length - 1]).Toks.length≤4294967296:=Ce ok.fit _ (List.mem_map.2 ⟨_,List.getElem_mem hlt,rfl⟩)
 rw [ew,ae hlt,Option.bind_some,GG hN _ hg _ 1 hlen (fun t ht=>⟨by have:=ok.ids _ _ hL t ht; simp only; omega,ok.hit _ hL t ht⟩),Option.bind_some,Int.toNat_natCast]
 have hset:=Fi (M:=ol s.Items (pos r.Pats) (neg r.Pats) (bw s.Items id).1 1 (row.Levels[row.Levels.length - 1]).Toks) hL (yz _)
 have hgrow:=JE hN _ hg (row.Levels.set (row.Levels.length - 1) ⟨ol s.Items (pos r.Pats) (neg r.Pats) (bw s.Items id).1 1 (row.Levels[row.Levels.length - 1]).Toks⟩) (tQ as c) (by simp only [List.length_set]; omega)
  (fun k hk=>by
   rw [List.length_set] at hk
   obtain ⟨a,i,h1,h2⟩:=ok.at_ k hk
   exact ⟨a,i,h1,h2,yB h1 h2⟩) ok.al
  (fun i L hi t ht=>by
   rw [List.getElem?_set] at hi
   split at hi
   ·rename_i e; subst e
    ·simp only [Option.some.injEq] at hi
     subst hi
     have h1:=yh (xs:=s.Items) (ps:=pos r.Pats) (ns:=neg r.Pats) (f:=(bw s.Items id).1) (b:=1) (row.Levels[row.Levels.length - 1]).Toks
     have h2:t.Ids∈(row.Levels[row.Levels.length - 1]).Toks.map (·.Ids):=by rw [← h1]; exact List.mem_map.2 ⟨t,ht,rfl⟩
     obtain ⟨u,hu,e⟩:=List.mem_map.1 h2
     rw [← e]; exact ok.ids _ _ hL u hu
   ·exact ok.ids i L hi t ht)
  (by rw [hset]; exact ok.fit)
 rw [hgrow,Option.bind_some]
 unfold rj i9
 rw [hL]
theorem Eu {N:Nat} (hN:1099000000000≤N) (d:bP) (n:fj) (m:dI) (s:ah) (id:Int) (as:List eu) (hs:s.Items.length≤1048576) (hx:∀ x∈s.Items,x.F.Fields.length≤1048576) (hlr:m.Rules.length≤1048576) :
  ∀ (ws:List cq) (rs:List af) (cs:List bR) (k:Nat) (dr:List af) (dc:List bR) (dw:List cq),ws.length < k→d.Rules=dr++rs→n.Chains=dc++cs→dw.length+ws.length=m.Rules.length→dr.length=dw.length→dc.length=dw.length→rs.length=ws.length→cs.length=ws.length →
   (∀ (i:Nat) (r:af) (c:bR) (w:cq),rs[i]?=some r→cs[i]?=some c→ws[i]?=some w→SzR r∧ER as r c w) →
   ej N d n m s id as k (dw++ws) (dw.length:Int)=some (as,dw++oJ (rj s.Items as (bw s.Items id).1 id) rs cs ws)
 | [],rs,cs,k,dr,dc,dw,hk,h1,h2,h3,h4,h5,h6,h7,h8=>by
  obtain ⟨k,rfl⟩:∃ j,k=j+1:=⟨k - 1,by simp at hk; omega⟩
  simp only [List.length_nil,Nat.add_zero] at h3
  have c1:decide ((dw.length:Int) < (m.Rules.length:Int))=false:=decide_eq_false (by omega)
  simp only [ej,c1,Bool.false_eq_true,if_false]
  cases rs <;> cases cs <;> simp [oJ]
 | w :: ws,[],cs,k,dr,dc,dw,hk,h1,h2,h3,h4,h5,h6,h7,h8=>by simp at h6
 | w :: ws,r :: rs,[],k,dr,dc,dw,hk,h1,h2,h3,h4,h5,h6,h7,h8=>by simp at h7
 | w :: ws,r :: rs,c :: cs,k,dr,dc,dw,hk,h1,h2,h3,h4,h5,h6,h7,h8=>by
  obtain ⟨k,rfl⟩:∃ j,k=j+1:=⟨k - 1,by omega⟩
  simp only [List.length_cons] at hk h3 h6 h7
  have c1:decide ((dw.length:Int) < (m.Rules.length:Int))=true:=decide_eq_true (by omega)
  obtain ⟨q1,q2⟩:=h8 0 r c w rfl rfl rfl
  have e1:idx d.Rules (dw.length:Int)=some r:=by rw [h1,← h4]; exact ng _ _ _
  have e2:idx n.Chains (dw.length:Int)=some c:=by rw [h2,← h5]; exact ng _ _ _
  simp only [ej,c1,if_true,ng,Option.bind_some,n7,e1,e2,ra hN r false q1.pl,ra hN r true q1.pl,zl,FH]
  rw [KH hN r c as s id w q1 hs hx q2 (fun x10=>ej N d n m s id as k ((dw++w :: ws).set (dw.length:Int).toNat (⟨x10⟩:cq)) (IntKind.i64.wrap ((dw.length:Int)+1)))]
  rw [Int.toNat_natCast,vI,wr1 dw.length (by omega)]
  have:=Eu hN d n m s id as hs hx hlr ws rs cs k (dr++[r]) (dc++[c]) (dw++[⟨(rj s.Items as (bw s.Items id).1 id r c w).Levels⟩]) (by omega) (by rw [h1]; simp) (by rw [h2]; simp) (by simp; omega) (by simp [h4]) (by simp [h5]) (by omega) (by omega)
   (fun i r' c' w' a1 a2 a3=>h8 (i+1) r' c' w' (by simpa using a1) (by simpa using a2) (by simpa using a3))
  simp only [List.length_append,List.length_cons,List.length_nil,Nat.zero_add] at this
  rw [this,List.append_assoc]
  rfl
theorem Ed {N:Nat} (hN:1099000000000≤N) (d:bP) (n:fj) (m:dI) (s:ah) (id:Int) (f:aL × Bool) (ha:∀ a∈n.Alphas,a.At.length≤1048576) (hl:n.Alphas.length≤1048576) :
  ∀ (as:List aM) (k:Nat) (da:List aM) (di is:List eu),as.length < k→n.Alphas=da++as→di.length=da.length→is.length=as.length→(∀ i∈is,i.L.length+1≤4294967296) →
   dS N d n m s id f k (di++is) (da.length:Int)=ej N d n m s id (di++dB f.1 id as is) N m.Rules 0
 | [],k,da,di,is,hk,h1,h2,h3,h4=>by
  obtain ⟨k,rfl⟩:∃ j,k=j+1:=⟨k - 1,by simp at hk; omega⟩
  have c1:decide ((da.length:Int) < (n.Alphas.length:Int))=false:=decide_eq_false (by rw [h1]; simp)
  simp only [dS,c1,Bool.false_eq_true,if_false,dB]
 | a :: as,k,da,di,[],hk,h1,h2,h3,h4=>by simp at h3
 | a :: as,k,da,di,i :: is,hk,h1,h2,h3,h4=>by
  obtain ⟨k,rfl⟩:∃ j,k=j+1:=⟨k - 1,by omega⟩
  simp only [List.length_cons] at hk h3
  have hal:n.Alphas.length=da.length+(as.length+1):=by rw [h1]; simp
  have c1:decide ((da.length:Int) < (n.Alphas.length:Int))=true:=decide_eq_true (by omega)
  have e1:idx n.Alphas (da.length:Int)=some a:=by rw [h1]; exact ng _ _ _
  have e2:idx (di++i :: is) (da.length:Int)=some i:=by rw [← h2]; exact ng _ _ _
  have ham:a∈n.Alphas:=by rw [h1]; simp
  have hil:=h4 i (by simp)
  have ih:=fun y=>Ed hN d n m s id f ha hl as k (da++[a]) (di++[y]) is (by omega) (by rw [h1]; simp) (by simp [h2]) (by omega) (fun j hj=>h4 j (by simp [hj]))
  simp only [List.length_append,List.length_cons,List.length_nil,Nat.zero_add,List.append_assoc,List.cons_append,List.nil_append] at ih
  simp only [dS,c1,if_true,e1,Option.bind_some,Ez hN a f.1 (ha a ham),wr1 da.length (by omega),dB]
  cases hp:lO a f.1 with
  | true=>
   simp only [if_true,e2,Option.bind_some,dG (show i.L.length+[id].length≤4294967296 by simpa using hil)]
   have e3:(di++i :: is).set ((da.length:Int)).toNat (⟨i.L++[id]⟩:eu)=di++⟨i.L++[id]⟩ :: is:=by
    rw [Int.toNat_natCast,← h2,vI,List.append_assoc]; rfl
   rw [e3]
   exact ih _
  | false=>
   simp only [Bool.false_eq_true,if_false]
   exact ih i
structure HV (d:bP) (n:fj) (m:dI) (s:ah) (id:Int):Prop where
 sl:s.Items.length≤1048576
 fl:∀ x∈s.Items,x.F.Fields.length≤1048576
 at_:∀ a∈n.Alphas,a.At.length≤1048576
 al:n.Alphas.length≤1048576
 rl:m.Rules.length≤1048576
 la:m.Alphas.length=n.Alphas.length
 lc:n.Chains.length=m.Rules.length
 ld:d.Rules.length=m.Rules.length
 il:∀ i∈m.Alphas,i.L.length+1≤4294967296
 rows:∀ (i:Nat) (r:af) (c:bR) (w:cq),d.Rules[i]?=some r→n.Chains[i]?=some c→m.Rules[i]?=some w→SzR r∧ER (dB (bw s.Items id).1 id n.Alphas m.Alphas) r c w
theorem Ky {N:Nat} (hN:1099000000000≤N) (d:bP) (n:fj) (m:dI) (s:ah) (id:Int) (h:HV d n m s id):mi N d n m s id=some ((zT d n m s id).Alphas,(zT d n m s id).Rules):=by
 have hal:=h.al
 have hrl:=h.rl
 unfold mi
 rw [tz hN s id h.sl h.fl,Option.bind_some]
 have h1:=Ed hN d n m s id (bw s.Items id) h.at_ h.al n.Alphas N [] [] m.Alphas (by omega) rfl rfl h.la h.il
 simp only [List.nil_append,List.length_nil,Int.natCast_zero] at h1
 have h1':dS N d n m s id (bw s.Items id) N m.Alphas 0=_:=h1
 rw [h1']
 have h2:=Eu hN d n m s id (dB (bw s.Items id).1 id n.Alphas m.Alphas) h.sl h.fl h.rl m.Rules d.Rules n.Chains N [] [] [] (by omega) rfl rfl (by simp) rfl rfl h.ld h.lc h.rows
 simp only [List.nil_append,List.length_nil,Int.natCast_zero] at h2
 exact h2
def InR (x:Int):Prop:=IntKind.i64.wrap x=x
theorem yk {b0:List ax}:∀ (as:List bh) (vs:List aN) (s:List ax) (pre:List aN),(ev b0 as vs s).2=true→as.length=vs.length→m7 (pre++vs) (ats pre.length as) (kT as)=true
 | [],vs,s,pre,_,_=>rfl
 | a :: as,[],s,pre,_,hl=>by simp at hl
 | a :: as,v :: vs,s,pre,h,hl=>by
  have hl':as.length=vs.length:=by simpa using hl
  have next:∀ s',(ev b0 as vs s').2=true→m7 (pre++v :: vs) (ats (pre.length+1) as) (kT as)=true:=fun s' h'=>by
   have:=yk as vs s' (pre++[v]) h' hl'
   simpa using this
  unfold ev at h
  unfold ats kT
  by_cases k2:a.K=2
  ·rw [if_pos k2] at h
   rw [if_pos k2,if_pos k2]
   by_cases he:bT a.V v=true
   ·rw [if_pos he] at h
    rw [kE,decide_eq_true_eq] at he
    unfold m7
    have e1:idx (pre++v :: vs) (pre.length:Int)=some a.V:=by
     rw [ae (show pre.length < (pre++v :: vs).length by simp),he]; simp
    rw [next s h,e1,decide_eq_true (show (0:Int)≤(pre.length:Int) by omega),decide_eq_true (show (pre.length:Int) < ((pre++v :: vs).length:Int) by simp; omega)]
    simp
   ·rw [if_neg he] at h; cases h
  ·rw [if_neg k2] at h
   rw [if_neg k2,if_neg k2]
   split at h
   ·split at h
    ·split at h
     ·exact next s h
     ·cases h
    ·exact next _ h
   ·exact next s h
theorem yQ {p:au} {f:aL} {b:List ax} (h:(cA p f b).2=true):lO (bg p) f=true:=by
 unfold cA at h
 split at h
 ·rename_i hc
  have:=yk p.Args f.Fields b [] h hc.2
  have hk:seq f.Kind p.Kind=true:=by
   have:=hc.1
   rw [o4,decide_eq_true_eq] at this ⊢
   exact this.symm
  show ((seq f.Kind p.Kind && decide ((f.Fields.length:Int)=(p.Args.length:Int))) && m7 f.Fields (ats 0 p.Args) (kT p.Args))=true
  rw [hk,decide_eq_true (show (f.Fields.length:Int)=(p.Args.length:Int) by omega)]
  simpa using this
 ·cases h
theorem uW {xs:List ak} {id:Int}:∀ (ps:List au) (row:List Int) (l:List ax),(bd xs (ps.take (row.length+1)) (row++[id]) l).2=true→∃ p,ps[row.length]?=some p∧lO (bg p) (bw xs id).1=true
 | [],row,l,h=>by
  cases row <;> simp [bd] at h
 | p :: ps,[],l,h=>by
  simp only [List.length_nil,Nat.zero_add,List.take_succ_cons,List.nil_append,bd] at h
  split at h
  ·rename_i hc
   exact ⟨p,rfl,yQ hc.2⟩
  ·cases h
 | p :: ps,v :: row,l,h=>by
  simp only [List.length_cons,List.take_succ_cons,List.cons_append,bd] at h
  split at h
  ·have:=uW ps row _ h
   simpa using this
  ·cases h
theorem qT {f:aL} {id:Int}:∀ (as:List aM) (is:List eu),(dB f id as is).length=is.length
 | [],is=>by simp [dB]
 | a :: as,[]=>by simp [dB]
 | a :: as,i :: is=>by simp [dB,qT as is]
structure IH (d:bP) (n:fj) (m:dI) (s:ah) (id:Int):Prop where
 ok:HV d n m s id
 ats:Ats n.Alphas n.Chains d.Rules
 rows:∀ (i:Nat) (r:af) (w:cq),d.Rules[i]?=some r→m.Rules[i]?=some w→SzS r s∧(pos r.Pats).length=an r.Pats∧∀ L,w.Levels[w.Levels.length - 1]?=some L→∀ t∈L.Toks,∀ x∈t.Hits,InR x
def xX (c:bR):cq:=⟨List.replicate c.Pos.length ⟨[]⟩⟩
def iT (p:fj):dI:=⟨List.replicate p.Alphas.length ⟨[]⟩,p.Chains.map xX⟩
theorem AL {N:Nat} (hN:1099000000000≤N) (p:fj) (ha:p.Alphas.length≤1048576) (hc:p.Chains.length≤1048576) (hp:∀ c∈p.Chains,c.Pos.length≤1048576):oc N p=some (iT p):=by
 unfold oc iT
 rw [EV _ (by omega),Option.bind_some]
 refine (lp' hN p.Chains (by omega) (fun n (u:List cq) i=>gQ N p (List.replicate p.Alphas.length ⟨[]⟩) n u i) (fun t u=>some ⟨List.replicate p.Alphas.length ⟨[]⟩,u++t.map xX⟩) (fun u t=>u.length+t.length≤1048576) [] (by simpa using hc) (fun n u i c t g1 g2 g3 g4 g5 g6 gI gh=>?_) (fun n u i g1 g2 gI=>?_)).trans (by simp)
 ·simp only [List.length_cons] at gI
  have hm:=hp c g2
  simp only [gQ,g5,if_true,g4,Option.bind_some,EV _ (show c.Pos.length≤4294967296 by omega),dG (show u.length+[(⟨List.replicate c.Pos.length ⟨[]⟩⟩:cq)].length≤4294967296 by simp; omega),g6]
  rw [gh _ (by simp; omega)]; simp [xX]
 ·simp only [gQ,g2,Bool.false_eq_true,if_false]; simp
def DG (ps ns:List au) (i:Nat) (t:aD):Prop:=t.Ids.length=i+1∧t.Hits.length≤ns.length∧(i+1=ps.length→t.Hits.length=ns.length∧∀ x∈t.Hits,InR x)
def J8 (ps ns:List au) (j i:Nat) (L:aO):Prop:=L.Toks.length≤j*100 ^ i∧∀ t∈L.Toks,DG ps ns i t
def FZ (r:af) (j:Nat) (w:cq):Prop:=w.Levels.length=(pos r.Pats).length∧∀ i L,w.Levels[i]?=some L→J8 (pos r.Pats) (neg r.Pats) j i L
theorem DW {xs:List ak} {ps ns:List au} {row:List Int} {id:Int} (hx:xs.length≤1048576):∀ t∈nG xs ps ns row id,DG ps ns row.length t:=by
 intro t ht
 unfold nG at ht
 split at ht
 ·simp only [List.mem_singleton] at ht
  subst ht
  refine ⟨by simp,?_,fun e=>?_⟩
  ·simp only
   split
   ·simp [mC]
   ·simp
  ·simp only [e,if_true]
   refine ⟨by simp [mC],fun x hx'=>?_⟩
   unfold mC at hx'
   obtain ⟨p,_,rfl⟩:=List.mem_map.1 hx'
   have:=Cu p (okB xs ps (row++[id])).1 xs
   exact wr (by omega) (by omega)
 ·cases ht
theorem uw {xs:List ak} {ps ns:List au} {row ids:List Int} (hx:xs.length≤1048576):∀ t∈gE xs ps ns row ids,DG ps ns row.length t:=by
 intro t ht
 unfold gE at ht
 obtain ⟨v,_,h⟩:=List.mem_flatMap.1 ht
 exact DW hx t h
theorem yH {xs:List ak} {ps ns:List au} {id:Int} {k:Nat} {B F:List aD} {A:List Int} (hx:xs.length≤1048576) (hB:∀ t∈B,t.Ids.length=k) (hF:∀ t∈F,t.Ids.length=k):∀ t∈jH xs ps ns id k B F A,DG ps ns k t:=by
 intro t ht
 unfold jH at ht
 split at ht
 ·rename_i e
  subst e
  exact uw hx t ht
 ·rcases List.mem_append.1 ht with ht | ht
  ·obtain ⟨u,hu,h⟩:=List.mem_flatMap.1 ht
   have:=uw hx t h
   rwa [hB u hu] at this
  ·obtain ⟨u,hu,h⟩:=List.mem_flatMap.1 ht
   have:=uw hx t h
   rwa [hF u hu] at this
theorem zY {j k b f a:Nat} (hj:j≤40) (ha:a≤41) (h:k≠0→b≤j*100 ^ (k - 1)∧f≤100 ^ (k - 1)):(if k=0 then 1 else b+f*a)≤100 ^ k:=by
 split
 ·rename_i e; subst e; exact Nat.le_refl _
 ·rename_i e
  obtain ⟨k,rfl⟩:∃ m,k=m+1:=⟨k - 1,by omega⟩
  obtain ⟨h1,h2⟩:=h e
  simp only [Nat.add_sub_cancel] at h1 h2
  have h3:f*a≤100 ^ k*41:=Nat.mul_le_mul h2 ha
  have h4:j*100 ^ k≤40*100 ^ k:=Nat.mul_le_mul_right _ hj
  rw [Nat.pow_succ]
  omega
theorem ye {xs:List ak} {ps ns:List au} {id:Int} {A:Nat→List Int} {j:Nat} (hj:j≤40) (hA:∀ k,(A k).length≤41) (hx:xs.length≤1048576):∀ (ls:List aO) (k:Nat) (B F:List aD),(k≠0→B.length≤j*100 ^ (k - 1)∧F.length≤100 ^ (k - 1))→(∀ t∈B,t.Ids.length=k)→(∀ t∈F,t.Ids.length=k) →
  (∀ i L,ls[i]?=some L→J8 ps ns j (k+i) L)→(mT xs ps ns id A k ls B F).length=ls.length∧∀ i L,(mT xs ps ns id A k ls B F)[i]?=some L→J8 ps ns (j+1) (k+i) L
 | [],k,B,F,h1,h2,h3,h4=>⟨rfl,fun i L h=>by simp [mT] at h⟩
 | M :: Ls,k,B,F,h1,h2,h3,h4=>by
  have hm:=Nat.le_trans (yK xs ps ns id k B F (A k)) (zY hj (hA k) h1)
  have ht:=yH (xs:=xs) (ps:=ps) (ns:=ns) (id:=id) (A:=A k) hx h2 h3
  have hM:=h4 0 M rfl
  obtain ⟨hM1,hM2⟩:=hM
  simp only [Nat.add_zero] at hM1 hM2
  have ih:=ye (xs:=xs) (ps:=ps) (ns:=ns) (id:=id) (A:=A) hj hA hx Ls (k+1) M.Toks (jH xs ps ns id k B F (A k)) (fun _=>⟨by simpa using hM1,by simpa using hm⟩) (fun t h=>(hM2 t h).1) (fun t h=>(ht t h).1) (fun i L h=>by
   have:=h4 (i+1) L (by simpa using h)
   rwa [show k+(i+1)=k+1+i by omega] at this)
  unfold mT
  refine ⟨by simp [ih.1],fun i L h=>?_⟩
  cases i with
  | zero=>
   simp only [List.getElem?_cons_zero,Option.some.injEq] at h
   subst h
   refine ⟨?_,fun t h=>?_⟩
   ·simp only [List.length_append,Nat.add_zero,Nat.succ_mul]; omega
   ·rcases List.mem_append.1 h with h | h
    ·exact hM2 t h
    ·exact ht t h
  | succ i=>
   have:=ih.2 i L (by simpa using h)
   rwa [show k+1+i=k+(i+1) by omega] at this
theorem HA (n:Int):InR (IntKind.i64.wrap n):=by
 have e1:(2:Int) ^ 64=18446744073709551616:=by decide
 have e2:(2:Int) ^ (64 - 1)=9223372036854775808:=by decide
 unfold InR
 apply wr
 ·simp only [IntKind.wrap,IntKind.bits,IntKind.signed,e1,e2,Bool.true_and,decide_eq_true_eq]
  split <;> omega
 ·simp only [IntKind.wrap,IntKind.bits,IntKind.signed,e1,e2,Bool.true_and,decide_eq_true_eq]
  split <;> omega
theorem Ae {f:aL} {l:List ax} {b:Int}:∀ (ns:List au) (h:List Int),(∀ x∈h,InR x)→∀ x∈mU f l b ns h,InR x
 | p :: ns,y :: h,hh,x,hx=>by
  unfold mU at hx
  rcases List.mem_cons.1 hx with rfl | hx
  ·split
   ·exact HA _
   ·exact hh y (by simp)
  ·exact Ae ns h (fun z hz=>hh z (by simp [hz])) x hx
 | [],h,hh,x,hx=>by
  have:mU f l b [] h=h:=by cases h <;> rfl
  rw [this] at hx; exact hh x hx
 | p :: ns,[],hh,x,hx=>by simp [mU] at hx
theorem Dz {xs:List ak} {ps ns:List au} {f:aL} {b:Int} {i:Nat} {toks:List aD} (h:∀ t∈toks,DG ps ns i t):∀ t∈ol xs ps ns f b toks,DG ps ns i t:=by
 intro t ht
 unfold ol at ht
 obtain ⟨u,hu,rfl⟩:=List.mem_map.1 ht
 obtain ⟨h1,h2,h3⟩:=h u hu
 split
 ·exact ⟨h1,by simp only [uz]; exact h2,fun e=>⟨by simp only [uz]; exact (h3 e).1,Ae _ _ (h3 e).2⟩⟩
 ·exact ⟨h1,h2,h3⟩
theorem yN {xs:List ak} {r:af} {f:aL} {b:Int} {j:Nat} {w:cq} (h:FZ r j w):FZ r j (i9 xs (pos r.Pats) (neg r.Pats) f b w):=by
 obtain ⟨h1,h2⟩:=h
 unfold i9
 split
 ·rename_i L hL
  refine ⟨by simpa using h1,fun i M hM=>?_⟩
  simp only at hM
  rw [List.getElem?_set] at hM
  split at hM
  ·rename_i e
   split at hM
   ·simp only [Option.some.injEq] at hM
    subst hM
    subst e
    obtain ⟨a,b⟩:=h2 _ L hL
    exact ⟨by simpa [yz] using a,Dz b⟩
   ·cases hM
  ·exact h2 i M hM
 ·exact ⟨h1,h2⟩
theorem vZ {as:List eu} {B:Nat} (h:∀ i∈as,i.L.length≤B) (c:bR) (k:Nat):(tQ as c k).length≤B:=by
 unfold tQ
 split
 ·split
  ·rename_i i hi
   obtain ⟨_,_,e⟩:=ab hi
   exact h i (List.mem_of_getElem? e)
  ·simp
 ·simp
theorem DE {xs:List ak} {as:List eu} {f:aL} {id:Int} {r:af} {c:bR} {j:Nat} {w:cq} (hj:j≤40) (hA:∀ i∈as,i.L.length≤41) (hx:xs.length≤1048576) (h:FZ r j w):FZ r (j+1) (rj xs as f id r c w):=by
 obtain ⟨h1,h2⟩:=yN (xs:=xs) (f:=f) (b:=1) h
 have:=ye (xs:=xs) (ps:=pos r.Pats) (ns:=neg r.Pats) (id:=id) (A:=tQ as c) hj (vZ hA c) hx (i9 xs (pos r.Pats) (neg r.Pats) f 1 w).Levels 0 [] [] (fun e=>absurd rfl e) (by simp) (by simp) (fun i L h=>by rw [Nat.zero_add]; exact h2 i L h)
 unfold rj
 exact ⟨by rw [this.1]; exact h1,fun i L h=>by have:=this.2 i L h; rwa [Nat.zero_add] at this⟩
theorem Cg {A:Nat→Nat} {j:Nat} (hj:j≤40) (hA:∀ k,A k≤41):∀ (ls:List Nat) (k b f:Nat),(k≠0→b≤j*100 ^ (k - 1)∧f≤100 ^ (k - 1))→(∀ i l,ls[i]?=some l→l≤j*100 ^ (k+i))→k+ls.length≤4→ve A k ls b f
 | [],k,b,f,h1,h2,h3=>trivial
 | l :: ls,k,b,f,h1,h2,h3=>by
  simp only [List.length_cons] at h3
  have hm:=zY hj (hA k) h1
  have hl:=h2 0 l rfl
  rw [Nat.add_zero] at hl
  have hp:100 ^ k≤1000000:=by
   have:100 ^ k≤100 ^ 3:=Nat.pow_le_pow_right (by omega) (by omega)
   simpa using this
  have hl':j*100 ^ k≤40*1000000:=Nat.mul_le_mul hj hp
  refine ⟨by omega,Cg hj hA ls (k+1) l _ (fun _=>⟨by simpa using hl,by simpa using hm⟩) (fun i l' h=>?_) (by omega)⟩
  have:=h2 (i+1) l' (by simpa using h)
  rwa [show k+(i+1)=k+1+i by omega] at this
theorem t7 {g:af→bR→cq→cq}:∀ (rs:List af) (cs:List bR) (ws:List cq),rs.length=ws.length→cs.length=ws.length→(oJ g rs cs ws).length=ws.length∧∀ (i:Nat) (v:cq),(oJ g rs cs ws)[i]?=some v→∃ (r:af) (c:bR) (w:cq),rs[i]?=some r∧cs[i]?=some c∧ws[i]?=some w∧v=g r c w
 | [],cs,[],_,_=>⟨by simp [oJ],fun i v h=>by simp [oJ] at h⟩
 | r :: rs,[],w :: ws,_,h=>by simp at h
 | r :: rs,c :: cs,w :: ws,h1,h2=>by
  have ih:=t7 (g:=g) rs cs ws (by simpa using h1) (by simpa using h2)
  unfold oJ
  refine ⟨by simp [ih.1],fun i v h=>?_⟩
  cases i with
  | zero=>exact ⟨r,c,w,rfl,rfl,rfl,by simpa using h.symm⟩
  | succ i=>
   obtain ⟨a,b,c',e1,e2,e3,e4⟩:=ih.2 i v (by simpa using h)
   exact ⟨a,b,c',by simpa using e1,by simpa using e2,by simpa using e3,e4⟩
theorem rp {f:aL} {id:Int} {B:Nat}:∀ (as:List aM) (is:List eu),(∀ i∈is,i.L.length≤B)→∀ i∈dB f id as is,i.L.length≤B+1
 | [],is,h,i,hi=>by
  have:dB f id [] is=is:=by cases is <;> rfl
  rw [this] at hi
  have:=h i hi; omega
 | a :: as,[],h,i,hi=>by simp [dB] at hi
 | a :: as,y :: is,h,i,hi=>by
  unfold dB at hi
  rcases List.mem_cons.1 hi with rfl | hi
  ·have:=h y (by simp)
   split
   ·simpa using this
   ·omega
  ·exact rp as is (fun z hz=>h z (by simp [hz])) i hi
structure qx (d:bP) (n:fj) (j:Nat) (m:dI):Prop where
 la:m.Alphas.length=n.Alphas.length
 lr:m.Rules.length=d.Rules.length
 al:∀ i∈m.Alphas,i.L.length≤j
 rows:∀ (i:Nat) (r:af) (w:cq),d.Rules[i]?=some r→m.Rules[i]?=some w→FZ r j w
theorem wx {d:bP} {n:fj} {m:dI} {s:ah} {id:Int} {j:Nat} (hj:j≤40) (hs:s.Items.length≤1048576) (hc:n.Chains.length=d.Rules.length) (h:qx d n j m):qx d n (j+1) (zT d n m s id):=by
 have h1:=rp (f:=(bw s.Items id).1) (id:=id) n.Alphas m.Alphas h.al
 have h2:=t7 (g:=rj s.Items (dB (bw s.Items id).1 id n.Alphas m.Alphas) (bw s.Items id).1 id) d.Rules n.Chains m.Rules h.lr.symm (by rw [hc,h.lr])
 refine ⟨?_,?_,h1,?_⟩
 ·show (dB _ _ _ _).length=_
  rw [qT]; exact h.la
 ·show (oJ _ _ _ _).length=_
  rw [h2.1]; exact h.lr
 ·intro i r v e1 e2
  obtain ⟨r',c,w,a1,a2,a3,rfl⟩:=h2.2 i v e2
  rw [e1] at a1
  cases a1
  exact DE hj (fun y hy=>by have:=h1 y hy; omega) hs (h.rows i r w e1 a3)
theorem wR {d:bP} {n:fj} (h:Ats n.Alphas n.Chains d.Rules):qx d n 0 (iT n):=by
 unfold iT
 refine ⟨by simp,by simp [h.len],fun i hi=>?_,fun i r w e1 e2=>?_⟩
 ·rw [(List.mem_replicate.1 hi).2]; simp
 ·simp only [List.getElem?_map,Option.map_eq_some_iff] at e2
  obtain ⟨c,hc,rfl⟩:=e2
  obtain ⟨hi,hr⟩:=List.getElem?_eq_some_iff.1 e1
  obtain ⟨hi',hc⟩:=List.getElem?_eq_some_iff.1 hc
  have hat:=(h.get i hi' hi).1
  rw [hc,hr] at hat
  refine ⟨by simp only [xX,List.length_replicate]; exact hat.len,fun k L hL=>?_⟩
  simp only [xX] at hL
  obtain ⟨_,e⟩:=List.getElem?_eq_some_iff.1 hL
  rw [List.getElem_replicate] at e
  subst e
  exact ⟨by simp,by simp⟩
theorem Fe {d:bP} {m:dI} {s:ah} {id:Int} {j:Nat} (hd:gX d=true) (hsz:oB d) (hs:s.Items.length≤40) (hf:∀ x∈s.Items,x.F.Fields.length≤1048576) (hj:j≤40) (h:qx d (de d) j m):IH d (de d) m s id:=by
 have hnd:=pJ hd
 obtain ⟨_,hats,hal⟩:=rd hnd
 obtain ⟨⟨z1,z2⟩,z3,z4⟩:=tj hnd
 have hA:=rp (f:=(bw s.Items id).1) (id:=id) (de d).Alphas m.Alphas h.al
 have hA':∀ i∈dB (bw s.Items id).1 id (de d).Alphas m.Alphas,i.L.length≤41:=fun i hi=>by have:=hA i hi; omega
 have hrl:d.Rules.length≤1048576:=hsz.2.1
 have hr:∀ r∈d.Rules,r.Pats.length≤6∧1≤(pos r.Pats).length∧(pos r.Pats).length≤3∧(pos r.Pats).length=an r.Pats∧pos r.Pats=r.Pats.take (an r.Pats)∧d9 r.Pats≤1048576∧∀ p∈r.Pats,p.Args.length≤1048576:=fun r hr=>by
  have ho:=lW hd r hr
  have hp:gr r.Pats=true:=by
   unfold hP at ho
   simp only [Bool.and_eq_true] at ho
   exact ho.2.2.1
  have hfl:=qP hp
  have hfc:(pos r.Pats).length=an r.Pats:=qh r.Pats
  unfold gr at hp
  simp only [Bool.and_eq_true,decide_eq_true_eq] at hp
  obtain ⟨⟨_,p1⟩,⟨p2,p3⟩,_⟩:=hp
  obtain ⟨_,⟨_,g1⟩,_,_,g2,_⟩:=hsz.2.2 r hr
  exact ⟨p1,by omega,by omega,hfc,hfl,g2,fun p hp=>(g1 p hp).2.1⟩
 have hmem:∀ (i:Nat) (r:af),d.Rules[i]?=some r→r∈d.Rules:=fun i r e=>List.mem_of_getElem? e
 refine ⟨⟨by omega,hf,fun a ha=>(z2 a ha).2,z1,by rw [h.lr]; exact hrl,h.la,by rw [hats.len,h.lr],h.lr.symm,fun i hi=>by have:=h.al i hi; omega,fun i r c w g1 g2 g3=>?_⟩,hats,fun i r w g1 g3=>?_⟩
 ·obtain ⟨q1,q2,q3,q4,q5,q6,q7⟩:=hr r (hmem i r g1)
  obtain ⟨k1,k2⟩:=h.rows i r w g1 g3
  refine ⟨⟨by omega,q6,q7⟩,⟨by omega,k1,fun i L hL t ht=>((k2 i L hL).2 t ht).1,fun L hL t ht=>(((k2 _ L hL).2 t ht).2.2 (by omega)).1,fun k hk=>?_,?_,fun k=>by have:=vZ hA' c k; omega⟩⟩
  ·obtain ⟨hi,hrr⟩:=List.getElem?_eq_some_iff.1 g1
   obtain ⟨hi',hcc⟩:=List.getElem?_eq_some_iff.1 g2
   have hat:=(hats.get i hi' hi).1
   rw [hcc,hrr] at hat
   have hkp:k < (pos r.Pats).length:=by omega
   have hkc:k < c.Pos.length:=by rw [hat.len]; exact hkp
   have e1:=hat.get k hkc hkp
   obtain ⟨a0,a1,e⟩:=ab e1
   obtain ⟨q,_⟩:=List.getElem?_eq_some_iff.1 e
   have hlt:c.Pos[k].toNat < (dB (bw s.Items id).1 id (de d).Alphas m.Alphas).length:=by rw [qT,h.la]; exact q
   have ecp:c.Pos[k]=((c.Pos[k].toNat:Nat):Int):=by omega
   exact ⟨c.Pos[k],_,ae hkc,by rw [ecp]; exact ae hlt⟩
  ·refine Cg hj (vZ hA' c) _ 0 0 0 (fun e=>absurd rfl e) (fun i l hl=>?_) (by simp; omega)
   rw [List.getElem?_map,Option.map_eq_some_iff] at hl
   obtain ⟨L,hL,rfl⟩:=hl
   rw [Nat.zero_add]
   exact (k2 i L hL).1
 ·obtain ⟨q1,q2,q3,q4,q5,q6,q7⟩:=hr r (hmem i r g1)
  obtain ⟨k1,k2⟩:=h.rows i r w g1 g3
  exact ⟨⟨by omega,q6,q7,by omega,hf,q5⟩,q4,fun L hL t ht=>(((k2 _ L hL).2 t ht).2.2 (by omega)).2⟩
def xD (g:List Int→Bool) (r ys:List Int):List (List Int):=(ys.map fun y=>r++[y]).filter g
def Ay (g:List Int→Bool) (id:Int) (before fresh:List (List Int)) (A:List Int):List (List Int):=before.flatMap (fun r=>xD g r [id])++fresh.flatMap (fun r=>xD g r A)
structure Has (p:List Int→Bool) (k:Nat) (L:List (List Int)):Prop where
 nd:L.Nodup
 iff:∀ r,r∈L↔r.length=k∧p r=true
theorem Has.perm {p:List Int→Bool} {k:Nat} {L M:List (List Int)} (h:Has p k L) (h':Has p k M):L.Perm M:=
 (List.perm_ext_iff_of_nodup h.nd h'.nd).2 fun r=>(h.iff r).trans (h'.iff r).symm
theorem mA {g:List Int→Bool} {r ys q:List Int}:q∈xD g r ys↔∃ y∈ys,q=r++[y]∧g q=true:=by
 unfold xD
 rw [List.mem_filter,List.mem_map]
 constructor
 ·rintro ⟨⟨y,hy,rfl⟩,h⟩; exact ⟨y,hy,rfl,h⟩
 ·rintro ⟨y,hy,rfl,h⟩; exact ⟨⟨y,hy,rfl⟩,h⟩
theorem BJ {g:List Int→Bool} {r ys:List Int} (h:ys.Nodup):(xD g r ys).Nodup:=by
 unfold xD
 refine List.Pairwise.filter _ (List.Pairwise.map _ (fun a b hab e=>hab ?_) h)
 simpa using e
theorem vf {g:List Int→Bool} {ys:List Int} (hy:ys.Nodup) {L:List (List Int)} (h:L.Nodup):(L.flatMap fun r=>xD g r ys).Nodup:=by
 unfold List.Nodup
 rw [List.pairwise_flatMap]
 refine ⟨fun r _=>BJ hy,h.imp fun {a b} hab q hq q' hq' e=>hab ?_⟩
 obtain ⟨y,_,rfl,_⟩:=mA.1 hq
 obtain ⟨y',_,rfl,_⟩:=mA.1 hq'
 exact (List.append_inj' e rfl).1
structure AO (g g':List Int→Bool) (id:Int) (A:Nat→List Int) (K:Nat):Prop where
 old:∀ r,g r=true→id ∉ r∧g' r=true
 new:∀ r,g' r=true→id ∉ r→g r=true
 pre:∀ r y,g' (r++[y])=true→g' r=true
 inA:∀ r y,r.length < K→g' (r++[y])=true→y∈A r.length
 nd:∀ k,k < K→(A k).Nodup
theorem FE {g g':List Int→Bool} {id:Int} {A:Nat→List Int} {K k:Nat} (H:AO g g' id A K) (hk:k < K) {B F:List (List Int)} (hB:Has g k B) (hF:Has (fun r=>g' r && decide (id∈r)) k F) :
  Has (fun r=>g' r && decide (id∈r)) (k+1) (Ay g' id B F (A k)):=by
 refine ⟨?_,fun r=>?_⟩
 ·unfold Ay
  rw [List.nodup_append]
  refine ⟨vf (by simp) hB.nd,vf (H.nd k hk) hF.nd,fun a ha b hb e=>?_⟩
  subst e
  obtain ⟨x,hx,h1⟩:=List.mem_flatMap.1 ha
  obtain ⟨y,hy,h2⟩:=List.mem_flatMap.1 hb
  obtain ⟨u,_,rfl,_⟩:=mA.1 h1
  obtain ⟨v,_,e,_⟩:=mA.1 h2
  obtain ⟨rfl,-⟩:=List.append_inj' e rfl
  have h3:=((hB.iff x).1 hx).2
  have h4:=((hF.iff x).1 hy).2
  simp only [Bool.and_eq_true,decide_eq_true_eq] at h4
  exact (H.old x h3).1 h4.2
 ·unfold Ay
  rw [List.mem_append,List.mem_flatMap,List.mem_flatMap]
  simp only [Bool.and_eq_true,decide_eq_true_eq]
  constructor
  ·rintro (⟨x,hx,h⟩ | ⟨x,hx,h⟩)
   ·obtain ⟨y,hy,rfl,h1⟩:=mA.1 h
    have:=(hB.iff x).1 hx
    refine ⟨by simp [this.1],h1,?_⟩
    simp at hy; simp [hy]
   ·obtain ⟨y,hy,rfl,h1⟩:=mA.1 h
    have:=(hF.iff x).1 hx
    simp only [Bool.and_eq_true,decide_eq_true_eq] at this
    exact ⟨by simp [this.1],h1,by simp [this.2.2]⟩
  ·rintro ⟨hl,hg,hi⟩
   rcases List.eq_nil_or_concat r with rfl | ⟨q,y,rfl⟩
   ·simp at hl
   ·rw [List.concat_eq_append] at hl hg hi ⊢
    have hq:q.length=k:=by simpa using hl
    have hg':=H.pre q y hg
    by_cases hiq:id∈q
    ·right
     refine ⟨q,(hF.iff q).2 ⟨hq,by simp [hg',hiq]⟩,mA.2 ⟨y,?_,rfl,hg⟩⟩
     have:=H.inA q y (by omega) hg
     rwa [hq] at this
    ·left
     refine ⟨q,(hB.iff q).2 ⟨hq,H.new q hg' hiq⟩,mA.2 ⟨y,?_,rfl,hg⟩⟩
     simp only [List.mem_append,hiq,false_or,List.mem_singleton] at hi
     simp [hi]
theorem DK {g g':List Int→Bool} {id:Int} {A:Nat→List Int} {K k:Nat} (H:AO g g' id A K) {L M:List (List Int)} (hL:Has g k L) (hM:Has (fun r=>g' r && decide (id∈r)) k M):Has g' k (L++M):=by
 refine ⟨?_,fun r=>?_⟩
 ·rw [List.nodup_append]
  refine ⟨hL.nd,hM.nd,fun a ha b hb e=>?_⟩
  subst e
  have h1:=((hL.iff a).1 ha).2
  have h2:=((hM.iff a).1 hb).2
  simp only [Bool.and_eq_true,decide_eq_true_eq] at h2
  exact (H.old a h1).1 h2.2
 ·rw [List.mem_append,hL.iff,hM.iff]
  simp only [Bool.and_eq_true,decide_eq_true_eq]
  constructor
  ·rintro (⟨h1,h2⟩ | ⟨h1,h2,_⟩)
   ·exact ⟨h1,(H.old r h2).2⟩
   ·exact ⟨h1,h2⟩
  ·rintro ⟨h1,h2⟩
   by_cases hi:id∈r
   ·exact .inr ⟨h1,h2,hi⟩
   ·exact .inl ⟨h1,H.new r h2 hi⟩
def uT (g:List Int→Bool) (id:Int) (A:Nat→List Int):Nat→List (List (List Int))→List (List Int)→List (List Int)→List (List (List Int))
 | _,[],_,_=>[]
 | k,L :: Ls,B,F=>(L++Ay g id B F (A k)) :: uT g id A (k+1) Ls L (Ay g id B F (A k))
theorem yn {g g':List Int→Bool} {id:Int} {A:Nat→List Int} {K:Nat} (H:AO g g' id A K):∀ (Ls:List (List (List Int))) (k:Nat) (B F:List (List Int)),k+Ls.length≤K→Has g k B→Has (fun r=>g' r && decide (id∈r)) k F→(∀ i L,Ls[i]?=some L→Has g (k+1+i) L) →
  ∀ i L,(uT g' id A k Ls B F)[i]?=some L→Has g' (k+1+i) L
 | [],k,B,F,_,_,_,_,i,L,h=>by simp [uT] at h
 | L :: Ls,k,B,F,hK,hB,hF,hL,i,M,h=>by
  rw [List.length_cons] at hK
  have hm:=FE H (by omega) hB hF
  have h0:Has g (k+1) L:=by simpa using hL 0 L rfl
  cases i with
  | zero=>
   simp only [uT,List.getElem?_cons_zero,Option.some.injEq] at h
   subst h
   exact DK H h0 hm
  | succ i=>
   simp only [uT,List.getElem?_cons_succ] at h
   have:=yn H Ls (k+1) L _ (by omega) h0 hm (fun j N hj=>by
    have:=hL (j+1) N (by simpa using hj)
    rwa [show k+1+(j+1)=k+1+1+j by omega] at this) i M h
   rwa [show k+1+(i+1)=k+1+1+i by omega]
theorem DJ {g g':List Int→Bool} {id:Int} {A:Nat→List Int} {K:Nat} (H:AO g g' id A K) (h0:g []=true) {Ls:List (List (List Int))} (hl:Ls.length≤K) (hL:∀ i L,Ls[i]?=some L→Has g (i+1) L):∀ i L,(uT g' id A 0 Ls [[]] [])[i]?=some L→Has g' (i+1) L:=by
 intro i L h
 have:=yn H Ls 0 [[]] [] (by omega) ⟨by simp,fun r=>by
  constructor
  ·intro h; simp at h; subst h; exact ⟨rfl,h0⟩
  ·rintro ⟨h,_⟩; simp [List.length_eq_zero_iff.1 h]⟩ ⟨by simp,fun r=>by
  constructor
  ·intro h; cases h
  ·rintro ⟨h,h1⟩; have:=List.length_eq_zero_iff.1 h; subst this; simp at h1⟩ (fun j N hj=>by
   have:=hL j N hj
   rwa [show 0+1+j=j+1 by omega]) i L h
 rwa [show i+1=0+1+i by omega]
theorem vY {xs:List ak} {v:Int} (h:∀ y∈xs,y.Id≠v):bw xs v=(Eg,false):=by
 unfold bw
 rw [List.find?_eq_none.2 fun y hy=>by simpa using h y hy]
theorem Bp {xs:List ak} {x:ak} {v:Int} (h:v≠x.Id):bw (xs++[x]) v=bw xs v:=by
 unfold bw
 rw [List.find?_append,List.find?_cons_of_neg (by simpa using fun e:x.Id=v=>h e.symm),List.find?_nil,Option.or_none]
theorem BL {xs:List ak} {x:ak} (h:∀ y∈xs,y.Id≠x.Id):bw (xs++[x]) x.Id=(x.F,true):=by
 unfold bw
 rw [List.find?_append,List.find?_eq_none.2 fun y hy=>by simpa using h y hy]
 simp
theorem Ac {xs:List ak} {v:Int} (h:(bw xs v).2=true):∃ x∈xs,x.Id=v∧bw xs v=(x.F,true):=by
 unfold bw at h ⊢
 split at h
 ·rename_i x hx
  exact ⟨x,List.mem_of_find?_eq_some hx,by simpa using List.find?_some hx,rfl⟩
 ·cases h
theorem l7 {xs:List ak}:∀ (ps:List au) (ids:List Int) (l:List ax),(bd xs ps ids l).2=true→∀ v∈ids,(bw xs v).2=true
 | [],[],l,h,v,hv=>by cases hv
 | [],u :: ids,l,h,v,hv=>by cases h
 | p :: ps,[],l,h,v,hv=>by cases hv
 | p :: ps,u :: ids,l,h,v,hv=>by
  unfold bd at h
  split at h
  ·rename_i c
   rcases List.mem_cons.1 hv with rfl | hv
   ·exact c.1
   ·exact l7 ps ids _ h v hv
  ·cases h
theorem tf {xs ys:List ak}:∀ (ps:List au) (ids:List Int) (l:List ax),(∀ v∈ids,bw xs v=bw ys v)→bd xs ps ids l=bd ys ps ids l
 | [],[],l,h=>rfl
 | [],u :: ids,l,h=>rfl
 | p :: ps,[],l,h=>rfl
 | p :: ps,u :: ids,l,h=>by
  unfold bd
  rw [h u (by simp),tf ps ids _ fun v hv=>h v (by simp [hv])]
theorem wu {xs:List ak} {y:Int}:∀ (ps:List au) (row:List Int) (l:List ax),(bd xs (ps.take (row.length+1)) (row++[y]) l).2=true→(bd xs (ps.take row.length) row l).2=true
 | [],row,l,h=>by cases row <;> simp [bd] at h
 | p :: ps,[],l,h=>by simp [bd]
 | p :: ps,v :: row,l,h=>by
  simp only [List.length_cons,List.take_succ_cons,List.cons_append,bd] at h ⊢
  split at h
  ·rename_i c
   rw [if_pos c]
   exact wu ps row _ h
  ·cases h
def okR (xs:List ak) (ps:List au) (r:List Int):Bool:=(okB xs ps r).2
theorem zM {xs:List ak} {ps:List au} {x:ak} {r:List Int} (h:x.Id ∉ r):okB (xs++[x]) ps r=okB xs ps r:=by
 unfold okB
 exact tf _ _ _ fun v hv=>Bp fun e=>h (e ▸ hv)
theorem Ev {xs:List ak} {ps:List au} {x:ak} {A:Nat→List Int} (hid:∀ y∈xs,y.Id≠x.Id)
  (hA:∀ k p,ps[k]?=some p→∀ y∈xs++[x],lO (bg p) y.F=true→y.Id∈A k) (hnd:∀ k,k < ps.length→(A k).Nodup):AO (okR xs ps) (okR (xs++[x]) ps) x.Id A ps.length:=by
 have key:∀ r,okR xs ps r=true→x.Id ∉ r:=fun r h hm=>by
  have:=l7 _ _ _ h x.Id hm
  rw [vY hid] at this
  cases this
 refine ⟨fun r h=>?_,fun r h hm=>?_,fun r y h=>?_,fun r y hl h=>?_,hnd⟩
 ·have hk:=key r h
  exact ⟨hk,by unfold okR; rw [zM hk]; exact h⟩
 ·unfold okR at h ⊢
  rwa [zM hm] at h
 ·unfold okR okB at h ⊢
  rw [List.length_append,List.length_cons,List.length_nil,Nat.zero_add] at h
  exact wu ps r [] h
 ·have hf:=l7 _ _ _ h y (by simp)
  unfold okR okB at h
  rw [List.length_append,List.length_cons,List.length_nil,Nat.zero_add] at h
  obtain ⟨p,hp,h2⟩:=uW ps r [] h
  obtain ⟨z,hz,rfl,e⟩:=Ac hf
  rw [e] at h2
  exact hA _ p hp z hz h2
def ip (l:List aD):List (List Int):=l.map (·.Ids)
theorem tc {xs:List ak} {ps ns:List au} (row:List Int):∀ (ids:List Int),ip (gE xs ps ns row ids)=xD (okR xs ps) row ids
 | []=>rfl
 | v :: ids=>by
  have ih:=tc (xs:=xs) (ps:=ps) (ns:=ns) row ids
  unfold gE ip xD at *
  rw [List.flatMap_cons,List.map_append,ih,List.map_cons,List.filter_cons]
  unfold nG
  by_cases h:(okB xs ps (row++[v])).2=true
  ·rw [if_pos h,if_pos (show okR xs ps (row++[v])=true from h)]; rfl
  ·rw [if_neg h,if_neg (show ¬ okR xs ps (row++[v])=true from h)]; rfl
theorem qm {xs:List ak} {ps ns:List au} (ids:List Int):∀ (B:List aD),ip (B.flatMap fun t=>gE xs ps ns t.Ids ids)=(ip B).flatMap fun r=>xD (okR xs ps) r ids
 | []=>rfl
 | t :: B=>by
  have ih:=qm (xs:=xs) (ps:=ps) (ns:=ns) ids B
  have h1:=tc (xs:=xs) (ps:=ps) (ns:=ns) t.Ids ids
  unfold ip at *
  rw [List.flatMap_cons,List.map_append,ih,h1,List.map_cons,List.flatMap_cons]
theorem BI {xs:List ak} {ps ns:List au} {id:Int} {k:Nat} {B F:List aD} {A:List Int} {B' F':List (List Int)} (h0:k=0→B'=[[]]∧F'=[]) (hk:k≠0→B'=ip B∧F'=ip F):ip (jH xs ps ns id k B F A)=Ay (okR xs ps) id B' F' A:=by
 unfold jH Ay
 by_cases c:k=0
 ·obtain ⟨rfl,rfl⟩:=h0 c
  rw [if_pos c,tc]
  simp
 ·obtain ⟨rfl,rfl⟩:=hk c
  rw [if_neg c]
  have h1:=qm (xs:=xs) (ps:=ps) (ns:=ns) [id] B
  have h2:=qm (xs:=xs) (ps:=ps) (ns:=ns) A F
  unfold ip at *
  rw [List.map_append,h1,h2]
theorem xf {xs:List ak} {ps ns:List au} {id:Int} {A:Nat→List Int}:∀ (Ls:List aO) (k:Nat) (B F:List aD) (B' F':List (List Int)),(k=0→B'=[[]]∧F'=[])→(k≠0→B'=ip B∧F'=ip F)→(mT xs ps ns id A k Ls B F).map (fun L=>ip L.Toks)=uT (okR xs ps) id A k (Ls.map fun L=>ip L.Toks) B' F'
 | [],k,B,F,B',F',h0,hk=>rfl
 | L :: Ls,k,B,F,B',F',h0,hk=>by
  have hm:=BI (xs:=xs) (ps:=ps) (ns:=ns) (id:=id) (A:=A k) h0 hk
  have ih:=xf (xs:=xs) (ps:=ps) (ns:=ns) (id:=id) (A:=A) Ls (k+1) L.Toks (jH xs ps ns id k B F (A k)) (ip L.Toks) (Ay (okR xs ps) id B' F' (A k)) (fun e=>by omega) (fun _=>⟨rfl,hm.symm⟩)
  unfold mT
  rw [List.map_cons,List.map_cons,ih,uT]
  congr 1
  unfold ip at *
  rw [List.map_append,hm]
def mR (xs:List ak) (ps ns:List au) (k:Nat) (r:List Int):List Int:=if k+1=ps.length then mC xs ns (okB xs ps r).1 else []
theorem tb {xs:List ak} {ps ns:List au} {row ids:List Int}:∀ t∈gE xs ps ns row ids,t.Hits=mR xs ps ns row.length t.Ids:=by
 intro t ht
 unfold gE at ht
 obtain ⟨v,_,h⟩:=List.mem_flatMap.1 ht
 unfold nG at h
 split at h
 ·simp only [List.mem_singleton] at h
  subst h
  rfl
 ·cases h
theorem Bt {xs:List ak} {ps ns:List au} {id:Int} {k:Nat} {B F:List aD} {A:List Int} (hB:∀ t∈B,t.Ids.length=k) (hF:∀ t∈F,t.Ids.length=k):∀ t∈jH xs ps ns id k B F A,t.Hits=mR xs ps ns k t.Ids:=by
 intro t ht
 unfold jH at ht
 split at ht
 ·rename_i e; subst e; exact tb t ht
 ·rcases List.mem_append.1 ht with ht | ht
  ·obtain ⟨u,hu,h⟩:=List.mem_flatMap.1 ht
   have:=tb t h
   rwa [hB u hu] at this
  ·obtain ⟨u,hu,h⟩:=List.mem_flatMap.1 ht
   have:=tb t h
   rwa [hF u hu] at this
theorem wZ {xs:List ak} {ps ns:List au} {id:Int} {A:Nat→List Int} (hx:xs.length≤1048576):∀ (Ls:List aO) (k:Nat) (B F:List aD),(∀ t∈B,t.Ids.length=k)→(∀ t∈F,t.Ids.length=k)→(∀ i L,Ls[i]?=some L→∀ t∈L.Toks,t.Ids.length=k+i+1∧t.Hits=mR xs ps ns (k+i) t.Ids) →
  ∀ i L,(mT xs ps ns id A k Ls B F)[i]?=some L→∀ t∈L.Toks,t.Hits=mR xs ps ns (k+i) t.Ids
 | [],k,B,F,hB,hF,hL,i,L,h=>by simp [mT] at h
 | M :: Ls,k,B,F,hB,hF,hL,i,L,h=>by
  have hm:=Bt (xs:=xs) (ps:=ps) (ns:=ns) (id:=id) (A:=A k) hB hF
  have hml:=yH (xs:=xs) (ps:=ps) (ns:=ns) (id:=id) (A:=A k) hx hB hF
  have hM:=hL 0 M rfl
  unfold mT at h
  cases i with
  | zero=>
   simp only [List.getElem?_cons_zero,Option.some.injEq] at h
   subst h
   intro t ht
   rcases List.mem_append.1 ht with ht | ht
   ·exact (hM t ht).2
   ·exact hm t ht
  | succ i=>
   have:=wZ (ps:=ps) (ns:=ns) (id:=id) (A:=A) hx Ls (k+1) M.Toks _ (fun t ht=>(hM t ht).1) (fun t ht=>(hml t ht).1) (fun j N hj=>by
    have:=hL (j+1) N (by simpa using hj)
    rwa [show k+(j+1)=k+1+j by omega] at this) i L (by simpa using h)
   rwa [show k+1+i=k+(i+1) by omega] at this
theorem vV {xs:List ak} {x:ak} {l:List ax} (hx:xs.length≤1048576):∀ (ns:List au),mU x.F l 1 ns (mC xs ns l)=mC (xs++[x]) ns l
 | []=>rfl
 | p :: ns=>by
  have ih:=vV (x:=x) (l:=l) hx ns
  have h1:=Cu p l xs
  unfold mC at ih ⊢
  rw [List.map_cons,List.map_cons,mU,ih]
  congr 1
  unfold tJ
  rw [List.countP_append,List.countP_singleton]
  unfold tJ at h1
  split
  ·rw [wr (by omega) (by omega)]; omega
  ·simp
def DI (xs:List ak) (r:af) (w:cq):Prop:=∀ k L,w.Levels[k]?=some L→Has (okR xs (pos r.Pats)) (k+1) (ip L.Toks)∧∀ t∈L.Toks,t.Hits=mR xs (pos r.Pats) (neg r.Pats) k t.Ids
theorem Has.len {p:List Int→Bool} {k:Nat} {l:List aD} (h:Has p k (ip l)):∀ t∈l,t.Ids.length=k∧p t.Ids=true:=fun t ht=>(h.iff t.Ids).1 (List.mem_map.2 ⟨t,ht,rfl⟩)
theorem Bh {xs:List ak} {x:ak} {r:af} {w:cq} (hx:xs.length≤1048576) (hid:∀ y∈xs,y.Id≠x.Id) (hl:w.Levels.length=(pos r.Pats).length) (h:DI xs r w) :
  ∀ k L,(i9 (xs++[x]) (pos r.Pats) (neg r.Pats) x.F 1 w).Levels[k]?=some L→Has (okR xs (pos r.Pats)) (k+1) (ip L.Toks)∧∀ t∈L.Toks,t.Hits=mR (xs++[x]) (pos r.Pats) (neg r.Pats) k t.Ids:=by
 have key:∀ q,okR xs (pos r.Pats) q=true→okB (xs++[x]) (pos r.Pats) q=okB xs (pos r.Pats) q:=fun q hq=>zM fun hm=>by
  have:=l7 _ _ _ hq x.Id hm
  rw [vY hid] at this
  cases this
 have far:∀ k L,w.Levels[k]?=some L→k≠w.Levels.length - 1→Has (okR xs (pos r.Pats)) (k+1) (ip L.Toks)∧∀ t∈L.Toks,t.Hits=mR (xs++[x]) (pos r.Pats) (neg r.Pats) k t.Ids:=fun k L hL hk=>by
  obtain ⟨h1,h2⟩:=h k L hL
  refine ⟨h1,fun t ht=>?_⟩
  have:=(List.getElem?_eq_some_iff.1 hL).1
  rw [h2 t ht]
  unfold mR
  rw [if_neg (by omega),if_neg (by omega)]
 intro k L hL
 unfold i9 at hL
 split at hL
 ·rename_i M hM
  simp only at hL
  rw [List.getElem?_set] at hL
  split at hL
  ·rename_i e
   split at hL
   ·simp only [Option.some.injEq] at hL
    subst hL
    subst e
    obtain ⟨h1,h2⟩:=h _ M hM
    have hlt:=(List.getElem?_eq_some_iff.1 hM).1
    refine ⟨?_,fun t ht=>?_⟩
    ·unfold ip at h1 ⊢
     rw [yh]; exact h1
    ·simp only at ht
     unfold ol at ht
     obtain ⟨u,hu,rfl⟩:=List.mem_map.1 ht
     have hu2:=h2 u hu
     have hok:=(Has.len h1 u hu).2
     have hk:=key _ hok
     have hc:(okB (xs++[x]) (pos r.Pats) u.Ids).2=true:=by rw [hk]; exact hok
     rw [if_pos hc]
     simp only
     rw [hu2,hk]
     unfold mR
     rw [if_pos (by omega),if_pos (by omega),vV hx,hk]
   ·cases hL
  ·rename_i e
   exact far k L hL fun e'=>e e'.symm
 ·rename_i hn
  have:=List.getElem?_eq_none_iff.1 hn
  have:=(List.getElem?_eq_some_iff.1 hL).1
  omega
theorem Hf {xs:List ak} {x:ak} {as:List eu} {r:af} {c:bR} {w:cq} (hx:xs.length+1≤1048576) (hid:∀ y∈xs,y.Id≠x.Id) (hl:w.Levels.length=(pos r.Pats).length)
  (hA:∀ k p,(pos r.Pats)[k]?=some p→tQ as c k=((xs++[x]).filter fun y=>lO (bg p) y.F).map (·.Id)) (hnd:((xs++[x]).map (·.Id)).Nodup) (h:DI xs r w):DI (xs++[x]) r (rj (xs++[x]) as x.F x.Id r c w):=by
 have ht:=Bh (x:=x) (by omega) hid hl h
 have hlen:(i9 (xs++[x]) (pos r.Pats) (neg r.Pats) x.F 1 w).Levels.length=w.Levels.length:=by unfold i9; split <;> simp
 have G:=Ev (xs:=xs) (ps:=pos r.Pats) (x:=x) (A:=tQ as c) hid
  (fun k p hp y hy hpy=>by rw [hA k p hp]; exact List.mem_map.2 ⟨y,List.mem_filter.2 ⟨hy,hpy⟩,rfl⟩)
  (fun k hk=>by
   rw [hA k _ (List.getElem?_eq_getElem hk)]
   exact List.Nodup.sublist (List.Sublist.map _ (List.filter_sublist)) hnd)
 have h0:okR xs (pos r.Pats) []=true:=by unfold okR okB; simp [bd]
 have e:=xf (xs:=xs++[x]) (ps:=pos r.Pats) (ns:=neg r.Pats) (id:=x.Id) (A:=tQ as c) (i9 (xs++[x]) (pos r.Pats) (neg r.Pats) x.F 1 w).Levels 0 [] [] [[]] [] (fun _=>⟨rfl,rfl⟩) (fun e=>absurd rfl e)
 have hg:=DJ G h0 (Ls:=(i9 (xs++[x]) (pos r.Pats) (neg r.Pats) x.F 1 w).Levels.map fun L=>ip L.Toks) (by rw [List.length_map,hlen,hl]; exact Nat.le_refl _) (fun i L hL=>by
  rw [List.getElem?_map,Option.map_eq_some_iff] at hL
  obtain ⟨M,hM,rfl⟩:=hL
  exact (ht i M hM).1)
 intro k L hL
 refine ⟨hg k _ ?_,?_⟩
 ·rw [← e,List.getElem?_map]
  unfold rj at hL
  rw [show (mT (xs++[x]) (pos r.Pats) (neg r.Pats) x.Id (tQ as c) 0 (i9 (xs++[x]) (pos r.Pats) (neg r.Pats) x.F 1 w).Levels [] [])[k]?=some L from hL]
  rfl
 ·have:=wZ (xs:=xs++[x]) (ps:=pos r.Pats) (ns:=neg r.Pats) (id:=x.Id) (A:=tQ as c) (by simp; omega) (i9 (xs++[x]) (pos r.Pats) (neg r.Pats) x.F 1 w).Levels 0 [] [] (by simp) (by simp) (fun i M hM t hm=>by
   obtain ⟨h1,h2⟩:=ht i M hM
   rw [Nat.zero_add]
   exact ⟨(Has.len h1 t hm).1,h2 t hm⟩) k L hL
  rwa [Nat.zero_add] at this
def tL (n:fj) (xs:List ak):List eu:=n.Alphas.map fun a=>⟨(xs.filter fun x=>lO a x.F).map (·.Id)⟩
theorem yJ {x:ak} {xs:List ak}:∀ (as:List aM),dB x.F x.Id as (as.map fun a=>⟨(xs.filter fun x=>lO a x.F).map (·.Id)⟩)=as.map fun a=>⟨((xs++[x]).filter fun x=>lO a x.F).map (·.Id)⟩
 | []=>rfl
 | a :: as=>by
  rw [List.map_cons,List.map_cons,dB,yJ as]
  congr 1
  rw [List.filter_append,List.filter_cons]
  cases lO a x.F <;> simp
structure xn (d:bP) (n:fj) (xs:List ak) (m:dI):Prop where
 al:m.Alphas=tL n xs
 rows:∀ (i:Nat) (r:af) (w:cq),d.Rules[i]?=some r→m.Rules[i]?=some w→DI xs r w
theorem JH {d:bP} {n:fj} {m:dI} {xs:List ak} {x:ak} {nx:Int} {j:Nat} (hx:xs.length+1≤1048576) (hnd:((xs++[x]).map (·.Id)).Nodup) (hats:Ats n.Alphas n.Chains d.Rules) (hi:qx d n j m) (h:xn d n xs m):xn d n (xs++[x]) (zT d n m ⟨xs++[x],nx⟩ x.Id):=by
 have hid:∀ y∈xs,y.Id≠x.Id:=fun y hy e=>by
  rw [List.map_append,List.nodup_append] at hnd
  exact hnd.2.2 y.Id (List.mem_map.2 ⟨y,hy,rfl⟩) x.Id (by simp) e
 have hf:=BL hid
 have ha:dB x.F x.Id n.Alphas m.Alphas=tL n (xs++[x]):=by rw [h.al]; exact yJ n.Alphas
 have h2:=t7 (g:=rj (xs++[x]) (dB x.F x.Id n.Alphas m.Alphas) x.F x.Id) d.Rules n.Chains m.Rules hi.lr.symm (by rw [hats.len,hi.lr])
 refine ⟨?_,fun i r v e1 e2=>?_⟩
 ·unfold zT
  simp only [hf]
  exact ha
 ·unfold zT at e2
  simp only [hf] at e2
  obtain ⟨r',c,w,a1,a2,a3,rfl⟩:=h2.2 i v e2
  rw [e1] at a1
  cases a1
  refine Hf hx hid (hi.rows i r w e1 a3).1 (fun k p hp=>?_) hnd (h.rows i r w e1 a3)
  obtain ⟨hi1,hr⟩:=List.getElem?_eq_some_iff.1 e1
  obtain ⟨hi2,hc⟩:=List.getElem?_eq_some_iff.1 a2
  have hat:=(hats.get i hi2 hi1).1
  rw [hc,hr] at hat
  obtain ⟨hkp,hpp⟩:=List.getElem?_eq_some_iff.1 hp
  have hkc:k < c.Pos.length:=by rw [hat.len]; exact hkp
  have e3:=hat.get k hkc hkp
  obtain ⟨a0,_,e4⟩:=ab e3
  have e5:idx (dB x.F x.Id n.Alphas m.Alphas) c.Pos[k]=some ⟨((xs++[x]).filter fun y=>lO (bg p) y.F).map (·.Id)⟩:=by
   rw [ha]
   unfold idx tL
   rw [if_pos a0,List.getElem?_map,e4,← hpp]
   rfl
  exact (yB (ae hkc) e5).symm
def nr (i:Nat) (m:aa):aa:=⟨(i:Int),m.Ids,m.Binds⟩
def fy (xs:List ak):Nat→List af→List aa
 | _,[]=>[]
 | i,r :: t=>(iW r xs).map (nr i)++fy xs (i+1) t
theorem BV {r:af} {s:ah} (hz:w9 r s):(iW r s.Items).length≤1073741824:=by
 have h1:=rE (td r s.Items) s.Items (r.Pats.take (an r.Pats)) [] []
 have h2:=ow r.Pats
 rw [List.length_take,Nat.min_eq_left h2] at h1
 exact Nat.le_trans h1 hz.nm
theorem vh {xs:List ak} {M:Nat}:∀ (t:List af) (i:Nat),(∀ r∈t,(iW r xs).length≤M)→(fy xs i t).length≤t.length*M
 | [],i,_=>by simp [fy]
 | r :: t,i,h=>by
  have h1:=vh t (i+1) fun y hy=>h y (by simp [hy])
  have h2:=h r (by simp)
  unfold fy
  rw [List.length_append,List.length_map,List.length_cons,Nat.succ_mul]; omega
theorem DT (ps:List au) (xs:List ak) (l:List ax):((mC xs (neg ps) l).all fun n=>decide (n=0)) = !kU ps xs l:=by
 unfold mC neg kU
 induction ps with
 | nil=>rfl
 | cons p ps ih=>
  rw [List.filter_cons,List.any_cons]
  cases hp:p.Not with
  | false=>simp only [Bool.false_eq_true,if_false,Bool.false_and,Bool.false_or]; exact ih
  | true=>
   simp only [if_true,List.map_cons,List.all_cons,Bool.true_and,Bool.not_or,ih]
   congr 1
   have h:=B2 p l xs
   rw [← h]
   by_cases c:tJ p l xs=0
   ·simp [c]
   ·rw [decide_eq_false (by omega),decide_eq_true (by omega)]; rfl
theorem uV {xs:List ak} {ps:List au} {r:List Int} (h:r.length=ps.length):okB xs ps r=bd xs ps r []:=by
 unfold okB
 rw [List.take_of_length_le (by omega)]
theorem HJ {a b:aa} (h:kG a b=true):a≠b:=fun e=>by
 subst e
 have:=un.irr a
 rw [h] at this
 cases this
theorem EA {xs:List ak} {i:Nat} {r:af} {w:cq} (hu:qi xs) (hp:gr r.Pats=true) (hl:w.Levels.length=(pos r.Pats).length) (hw:DI xs r w):sK (nq xs (i:Int) r (nL w))=(iW r xs).map (nr i):=by
 have hf:pos r.Pats=r.Pats.take (an r.Pats):=qP hp
 have hpc:1≤(pos r.Pats).length:=by
  have h1:=hp
  unfold gr at h1
  simp only [Bool.and_eq_true,decide_eq_true_eq] at h1
  have h2:(pos r.Pats).length=an r.Pats:=qh r.Pats
  omega
 have hlt:w.Levels.length - 1 < w.Levels.length:=by omega
 obtain ⟨L,hL⟩:∃ L,w.Levels[w.Levels.length - 1]?=some L:=⟨_,List.getElem?_eq_getElem hlt⟩
 have hlast:nL w=L.Toks:=by unfold nL; rw [hL]
 obtain ⟨hh,ht⟩:=hw _ L hL
 rw [show w.Levels.length - 1+1=(pos r.Pats).length by omega] at hh
 rw [hlast]
 have hs:=xA (r:=r) hu
 have hs':((iW r xs).map (nr i)).Pairwise fun a b=>kG a b=true:=by
  rw [List.pairwise_map]
  exact hs.imp_of_mem fun {a b} ha hb hab=>by
   have h1:=(q8 hu ha).1
   have h2:=(q8 hu hb).1
   unfold kG nr at *
   rw [if_pos (by omega)] at hab
   simpa using hab
 have htok:∀ t∈L.Toks,t.Ids.length=(pos r.Pats).length∧(bd xs (pos r.Pats) t.Ids []).2=true∧uS t = !kU r.Pats xs (bd xs (pos r.Pats) t.Ids []).1:=fun t h=>by
  obtain ⟨h1,h2⟩:=Has.len hh t h
  have e:=uV (xs:=xs) h1
  unfold okR at h2
  rw [e] at h2
  refine ⟨h1,h2,?_⟩
  have h3:=ht t h
  unfold mR at h3
  rw [if_pos (by omega),e] at h3
  unfold uS
  rw [h3]
  exact DT _ _ _
 symm
 refine GL ?_ ?_
 ·exact hs'.imp_of_mem fun {a b} ha hb hab=>by
   exact un.asymm a b hab
 ·refine (List.perm_ext_iff_of_nodup (hs'.imp fun h=>HJ h) ?_).2 fun x=>?_
  ·unfold nq List.Nodup
   rw [List.pairwise_flatMap]
   refine ⟨fun t _=>?_,?_⟩
   ·unfold rn
    split
    ·exact List.pairwise_singleton _ _
    ·exact List.Pairwise.nil
   ·have hn:=hh.nd
    unfold ip List.Nodup at hn
    rw [List.pairwise_map] at hn
    exact hn.imp fun {t u} htu a ha b hb e=>htu (by
     unfold rn at ha hb
     split at ha
     ·split at hb
      ·simp only [List.mem_singleton] at ha hb
       rw [ha,hb] at e
       exact (aa.mk.inj e).2.1
      ·cases hb
     ·cases ha)
  ·unfold nq
   rw [List.mem_map,List.mem_flatMap]
   constructor
   ·rintro ⟨m,hm,rfl⟩
    obtain ⟨h1,h2,h3⟩:=q8 hu hm
    rw [← hf] at h2
    have hlen:=wj _ _ _ _ h2
    have hok:okR xs (pos r.Pats) m.Ids=true:=by unfold okR; rw [uV hlen,h2]
    obtain ⟨t,htm,hti⟩:=List.mem_map.1 ((hh.iff m.Ids).2 ⟨hlen,hok⟩)
    refine ⟨t,htm,?_⟩
    obtain ⟨k1,k2,k3⟩:=htok t htm
    rw [hti,h2] at k3
    unfold rn
    rw [hti,h2,k3]
    simp only [Bool.true_and]
    rw [if_pos h3]
    simp [nr]
   ·rintro ⟨t,htm,hx⟩
    obtain ⟨k1,k2,k3⟩:=htok t htm
    unfold rn at hx
    rw [k2,k3,Bool.true_and] at hx
    split at hx
    ·rename_i c
     simp only [List.mem_singleton] at hx
     subst hx
     have hb:bd xs (r.Pats.take (an r.Pats)) t.Ids []=((bd xs (pos r.Pats) t.Ids []).1,true):=by rw [← hf,← k2]
     exact ⟨_,DB hb c,rfl⟩
    ·cases hx
theorem Co {xs:List ak} (hu:qi xs):∀ (rs:List af) (ws:List cq) (i:Nat),rs.length=ws.length→(∀ r∈rs,hP r=true)→(∀ (k:Nat) (r:af) (w:cq),rs[k]?=some r→ws[k]?=some w→w.Levels.length=(pos r.Pats).length∧DI xs r w)→BW xs i rs ws=fy xs i rs
 | [],[],i,_,_,_=>rfl
 | [],w :: ws,i,h,_,_=>by simp at h
 | r :: rs,[],i,h,_,_=>by simp at h
 | r :: rs,w :: ws,i,h,hr,hw=>by
  have ih:=Co hu rs ws (i+1) (by simpa using h) (fun q hq=>hr q (by simp [hq])) fun k q v h1 h2=>hw (k+1) q v (by simpa using h1) (by simpa using h2)
  obtain ⟨h1,h2⟩:=hw 0 r w rfl rfl
  have ho:=hr r (by simp)
  have hp:gr r.Pats=true:=by
   unfold hP at ho
   simp only [Bool.and_eq_true] at ho
   exact ho.2.2.1
  rw [BW,fy,ih,EA hu hp h1 h2]
theorem IL {N:Nat} (hN:1099000000000≤N) (f:aL) (h:zh f):nH N f=some (sV f):=by
 obtain ⟨h1,h2,h3⟩:=h
 unfold nH sV qw
 have d1:decide ((f.Fields.length:Int)≤5)=decide (f.Fields.length≤5):=by rw [decide_eq_decide]; omega
 have l1:eP N f.Fields N 0=some (f.Fields.all rX && decide (f.Fields.length≤5)):=lp0 hN f.Fields (by omega) (eP N f.Fields) (fun t=>some (t.all rX && decide (f.Fields.length≤5))) (fun n i x t g1 g2 g3 g4 g5 g6 g7=>by
  simp only [eP,g5,if_true,g4,Option.bind_some,Ij (show 1048578≤N by omega) x (h3 x g2),CL (show 1048578≤N by omega) x (h3 x g2),g6,g7,List.all_cons]
  cases rX x <;> simp) (fun n i g1 g2=>by simp only [eP,g2,Bool.false_eq_true,if_false,d1]; rfl)
 simp only [ph hN _ h1,Option.bind_some,l1,mS]
theorem Dt {done t:List ak} {x:ak} (h:∀ y∈done,y.Id < x.Id):decide (xC (done++x :: t) x.F=x.Id)=done.all fun y=>!decide (x.F=y.F):=by
 induction done with
 | nil=>
  rw [List.nil_append,um,if_pos rfl]; simp
 | cons y d ih=>
  rw [List.cons_append,um,List.all_cons]
  by_cases he:y.F=x.F
  ·have:=h y (by simp)
   rw [if_pos he]
   have e2:decide (x.F=y.F)=true:=decide_eq_true he.symm
   rw [e2,decide_eq_false (by omega)]; simp
  ·rw [if_neg he,ih fun z hz=>h z (by simp [hz])]
   have e2:decide (x.F=y.F)=false:=decide_eq_false (fun e=>he e.symm)
   rw [e2]; simp
theorem HB {N:Nat} (hN:1099000000000≤N) (s:ah) (h:kL s):mj N s=some (dO s):=by
 obtain ⟨h1,h2⟩:=h
 unfold mj dO
 have d1:decide ((40:Int) < (s.Items.length:Int)) = !decide (s.Items.length≤40):=by rw [← decide_not,decide_eq_decide]; omega
 have lp:∀ (n i:Nat),i≤s.Items.length→s.Items.length - i < n→(∀ y∈s.Items.take i,∀ z,(s.Items.take i).getLast?=some z→y.Id≤z.Id)→fZ N s n i=some (m5 s.Next (s.Items.take i) (s.Items.drop i)):=by
  intro n
  induction n with
  | zero=>intro i _ h; omega
  | succ n ih=>
   intro i hi hm hup
   simp only [fZ]
   by_cases hlt:i < s.Items.length
   ·have c1:decide ((i:Int) < (s.Items.length:Int))=true:=decide_eq_true (by omega)
    have hf:=h2 _ (List.getElem_mem hlt)
    have hprev:(if decide (0 < (i:Int))=true then (idx s.Items (IntKind.i64.wrap ((i:Int) - 1))).bind fun x5=>some (decide (s.Items[i].Id≤x5.Id)) else some false)=some (!(hU (s.Items.take i) s.Items[i].Id)):=by
     by_cases h0:0 < i
     ·have e1:IntKind.i64.wrap ((i:Int) - 1)=((i - 1:Nat):Int):=by rw [wr (by omega) (by omega)]; omega
      unfold hU; rw [AG h0 hi,decide_eq_true (show (0:Int) < (i:Int) by omega),e1]
      simp only [if_true,ae (show i - 1 < s.Items.length by omega),Option.bind_some]
      rw [← decide_not]; congr 1; rw [decide_eq_decide]; omega
     ·have:i=0:=by omega
      subst this
      simp [hU]
    have htk:s.Items.take (i+1)=s.Items.take i++[s.Items[i]]:=List.take_succ_eq_append_getElem hlt
    have hall:s.Items=s.Items.take i++s.Items[i] :: s.Items.drop (i+1):=by
     rw [← List.drop_eq_getElem_cons hlt,List.take_append_drop]
    rw [List.drop_eq_getElem_cons hlt,m5,← htk]
    simp only [c1,if_true,ae hlt,Option.bind_some,IL hN _ hf,hprev,Bg hN s s.Items[i].F (by omega) (fun x hx=>(h2 x hx).2.1),wr1 i (by omega)]
    cases sV s.Items[i].F with
    | false=>simp
    | true=>
     by_cases hid:1≤s.Items[i].Id
     ·by_cases hnx:s.Items[i].Id < s.Next
      ·have e1:decide (s.Items[i].Id < 1)=false:=decide_eq_false (by omega)
       have e2:decide (s.Next≤s.Items[i].Id)=false:=decide_eq_false (by omega)
       rw [e1,e2,decide_eq_true hid,decide_eq_true hnx]
       cases hl:(hU (s.Items.take i) s.Items[i].Id) with
       | false=>simp
       | true=>
        have hlow:∀ y∈s.Items.take i,y.Id < s.Items[i].Id:=by
         intro y hy
         cases hg:(s.Items.take i).getLast? with
         | none=>rw [List.getLast?_eq_none_iff] at hg; rw [hg] at hy; cases hy
         | some z=>
          unfold hU at hl
          rw [hg] at hl
          have:=of_decide_eq_true hl
          have:=hup y hy z hg
          omega
        have hd:=Dt (t:=s.Items.drop (i+1)) hlow
        rw [← hall] at hd
        have ih1:=ih (i+1) (by omega) (by omega) (by
         intro y hy z hz
         rw [htk] at hy hz
         rw [List.getLast?_concat] at hz
         have hz:=Option.some.inj hz
         rcases List.mem_append.1 hy with hy | hy
         ·have:=hlow y hy; rw [← hz]; omega
         ·simp at hy; rw [hy,← hz]; exact Int.le_refl _)
        simp only [Bool.not_true,Bool.false_eq_true,if_false,Option.bind_some,hd,ih1,Bool.true_and,Bool.and_self]
        cases (s.Items.take i).all fun y=>!decide (s.Items[i].F=y.F) <;> simp
      ·have e2:decide (s.Next≤s.Items[i].Id)=true:=decide_eq_true (by omega)
       rw [e2,decide_eq_false hnx]
       cases decide (s.Items[i].Id < 1) <;> simp
     ·have e1:decide (s.Items[i].Id < 1)=true:=decide_eq_true (by omega)
      rw [e1,decide_eq_false hid]
      simp
   ·have c1:decide ((i:Int) < (s.Items.length:Int))=false:=decide_eq_false (by omega)
    rw [List.drop_of_length_le (by omega)]
    simp only [c1,Bool.false_eq_true,if_false]; rfl
 have l0:=lp N 0 (by omega) (by omega) (by simp)
 rw [List.take_zero,List.drop_zero,show ((0:Nat):Int)=0 from rfl] at l0
 simp only [in0,Option.bind_some,d1,l0]
 cases (decide (1≤s.Next) && decide (s.Next≤1000000)) <;> cases decide (s.Items.length≤40) <;> simp
theorem IV {N:Nat} (hN:1099000000000≤N) (f:aL) (h:zh f):o0 N f=some (sV f):=by
 obtain ⟨h1,h2,h3⟩:=h
 unfold o0 sV
 have l1:eG N f N 0=some (f.Fields.all rX):=lp0 hN f.Fields (by omega) (eG N f) (fun t=>some (t.all rX)) (fun n i x t g1 g2 g3 g4 g5 g6 g7=>by
  simp only [eG,g5,if_true,g4,Option.bind_some,CL (show 1048578≤N by omega) x (h3 x g2),g6,g7,List.all_cons]
  cases rX x <;> simp) (fun n i g1 g2=>by simp only [eG,g2,Bool.false_eq_true,if_false]; rfl)
 have d1:decide ((5:Int) < (f.Fields.length:Int)) = !decide (f.Fields.length≤5):=by rw [← decide_not,decide_eq_decide]; omega
 simp only [po hN _ h1,Option.bind_some,d1,l1]
 cases gq f.Kind <;> cases decide (f.Fields.length≤5) <;> simp
theorem GT {N:Nat} (hN:1099000000000≤N) (x y:aL) (hl:x.Fields.length≤4294967296):lg N x y=some (decide (x=y)):=by
 have e:bV N x.Fields y.Fields=some (decide (x.Fields=y.Fields)):=by
  unfold bV
  by_cases c:x.Fields.length=y.Fields.length
  ·rw [if_neg (by simp; omega)]
   refine (sW (bl N x.Fields y.Fields) x.Fields y.Fields c (by omega) (fun a b=>some (decide (a=b))) (fun a _ b _=>rfl) (fun k i=>by simp only [bl,kE,Option.bind_some]) N 0 (by omega) (by omega)).trans ?_
   simp
  ·rw [if_pos (by simp; omega)]
   have : ¬ x.Fields=y.Fields:=fun e=>c (by rw [e])
   simp [this]
 unfold lg
 simp only [e,Option.bind_some,mS,o4]
 obtain ⟨a,b⟩:=x; obtain ⟨c,d⟩:=y
 simp only [aL.mk.injEq,Bool.decide_and]
theorem Am {α:Type} {xs:List α} {i:Nat} (h:i≤xs.length):ssl xs 0 (i:Int)=some (xs.take i):=by
 unfold ssl
 have:(0:Int)≤0∧(0:Int)≤(i:Int)∧(i:Int)≤(xs.length:Int):=by omega
 simp [h]
theorem tY {N:Nat} (hN:1099000000000≤N) (s:ah) (h:kL s):jb N s=some (dO s):=by
 obtain ⟨h1,h2⟩:=h
 unfold jb dO
 have d1:decide ((40:Int) < (s.Items.length:Int)) = !decide (s.Items.length≤40):=by rw [← decide_not,decide_eq_decide]; omega
 simp only [in1,Option.bind_some,d1]
 by_cases hn:1≤s.Next∧s.Next≤1000000
 ·have lp:∀ (n i:Nat),i≤s.Items.length→s.Items.length - i < n→d6 N s n i=some (m5 s.Next (s.Items.take i) (s.Items.drop i)):=by
   intro n
   induction n with
   | zero=>intro i _ h; omega
   | succ n ih=>
    intro i hi hm
    simp only [d6]
    by_cases hlt:i < s.Items.length
    ·have c1:decide ((i:Int) < (s.Items.length:Int))=true:=decide_eq_true (by omega)
     have hf:=h2 _ (List.getElem_mem hlt)
     have hnx:IntKind.i64.wrap (s.Next - 1)=s.Next - 1:=wr (by omega) (by omega)
     have hprev:(if decide (0 < (i:Int))=true then (idx s.Items (IntKind.i64.wrap ((i:Int) - 1))).bind fun x5=>some (decide (s.Items[i].Id≤x5.Id)) else some false)=some (!(hU (s.Items.take i) s.Items[i].Id)):=by
      by_cases h0:0 < i
      ·have e1:IntKind.i64.wrap ((i:Int) - 1)=((i - 1:Nat):Int):=by rw [wr (by omega) (by omega)]; omega
       unfold hU; rw [AG h0 hi,decide_eq_true (show (0:Int) < (i:Int) by omega),e1]
       simp only [if_true,ae (show i - 1 < s.Items.length by omega),Option.bind_some]
       rw [← decide_not]; congr 1; rw [decide_eq_decide]; omega
      ·have:i=0:=by omega
       subst this
       simp [hU]
     have hdup:ef N (i:Int) (d6 N s n) s.Items[i] (s.Items.take i) N 0=some ((((s.Items.take i).all fun y=>!decide (s.Items[i].F=y.F))) && m5 s.Next (s.Items.take (i+1)) (s.Items.drop (i+1))):=by
      refine lp0 hN (s.Items.take i) (by rw [List.length_take]; omega) (ef N (i:Int) (d6 N s n) s.Items[i] (s.Items.take i)) (fun t=>some ((t.all fun y=>!decide (s.Items[i].F=y.F)) && m5 s.Next (s.Items.take (i+1)) (s.Items.drop (i+1)))) (fun m k y t g1 g2 g3 g4 g5 g6 g7=>?_) (fun m k g1 g2=>?_)
      ·simp only [ef,g5,if_true,g4,Option.bind_some,GT hN s.Items[i].F y.F (by have:=hf.2.1; omega),g6,g7,List.all_cons]
       cases decide (s.Items[i].F=y.F) <;> simp
      ·simp only [ef,g2,Bool.false_eq_true,if_false,wr1 i (by omega),ih (i+1) (by omega) (by omega)]; rfl
     have d2:decide (s.Items[i].Id≤s.Next - 1)=decide (s.Items[i].Id < s.Next):=by rw [decide_eq_decide]; omega
     have htk:s.Items.take (i+1)=s.Items.take i++[s.Items[i]]:=List.take_succ_eq_append_getElem hlt
     rw [List.drop_eq_getElem_cons hlt,m5,← htk]
     simp only [c1,if_true,ae hlt,Option.bind_some,IV hN _ hf,in1,hnx,d2,hprev,Am (show i≤s.Items.length by omega),hdup]
     cases sV s.Items[i].F with
     | false=>simp
     | true=>
      cases (decide (1≤s.Items[i].Id) && decide (s.Items[i].Id < s.Next)) with
      | false=>simp
      | true=>
       cases (hU (s.Items.take i) s.Items[i].Id) <;> simp
    ·have c1:decide ((i:Int) < (s.Items.length:Int))=false:=decide_eq_false (by omega)
     rw [List.drop_of_length_le (by omega)]
     simp only [c1,Bool.false_eq_true,if_false]; rfl
  have l0:=lp N 0 (by omega) (by omega)
  rw [List.take_zero,List.drop_zero,show ((0:Nat):Int)=0 from rfl] at l0
  rw [l0,decide_eq_true hn.1,decide_eq_true hn.2]
  cases decide (s.Items.length≤40) <;> simp
 ·have:(decide (1≤s.Next) && decide (s.Next≤1000000))=false:=by
   rw [Bool.eq_false_iff]
   intro h
   simp only [Bool.and_eq_true,decide_eq_true_eq] at h
   exact hn h
  rw [this]
  cases decide (s.Items.length≤40) <;> simp
theorem E6 {N:Nat} (hN:1099000000000≤N) (as:List aM) (cs:List bR) (p:au) (hp:p.Args.length≤1048576) (hl:as.length≤4194304) (h:∀ a∈as,qv a) :
  iE N ⟨as,cs⟩ p=some ((cr as (bg p)).1,⟨(cr as (bg p)).2,cs⟩):=by
 unfold iE
 rw [GI hN p hp,Option.bind_some]
 have lp:∀ (n i:Nat),i≤as.length→as.length - i < n→cU N ⟨as,cs⟩ (bg p) n i =
   some (match (as.drop i).findIdx? (fun x=>decide (x=bg p)) with | some j=>((i+j:Nat):Int) | none=>(as.length:Int),⟨match (as.drop i).findIdx? (fun x=>decide (x=bg p)) with | some j=>as | none=>as++[bg p],cs⟩):=by
  intro n
  induction n with
  | zero=>intro i _ h; omega
  | succ n ih=>
   intro i hi hn
   by_cases hlt:i < as.length
   ·have c1:decide ((i:Int) < (as.length:Int))=true:=decide_eq_true (by omega)
    rw [List.drop_eq_getElem_cons hlt,List.findIdx?_cons]
    simp only [cU,c1,if_true,ae hlt,Option.bind_some,GN hN _ _ (h _ (List.getElem_mem hlt)),wr1 i (by omega),ih (i+1) (by omega) (by omega)]
    by_cases he:as[i]=bg p
    ·simp [he]
    ·simp only [he,decide_false,Bool.false_eq_true,if_false]
     cases (as.drop (i+1)).findIdx? (fun x=>decide (x=bg p)) with
     | none=>rfl
     | some j=>simp only [Option.map_some]; rw [show i+(j+1)=i+1+j by omega]
   ·have c1:decide ((i:Int) < (as.length:Int))=false:=decide_eq_false (by omega)
    rw [List.drop_of_length_le (by omega)]
    simp only [cU,c1,Bool.false_eq_true,if_false,dG (show as.length+[bg p].length≤4294967296 by simp; omega),Option.bind_some,List.findIdx?_nil]
    have e:IntKind.i64.wrap (((as++[bg p]).length:Int) - 1)=(as.length:Int):=by
     rw [wr (by simp only [List.length_append,List.length_cons,List.length_nil]; omega) (by simp only [List.length_append,List.length_cons,List.length_nil]; omega)]; simp only [List.length_append,List.length_cons,List.length_nil]; omega
    rw [e]
 have:=lp N 0 (by omega) (by omega)
 rw [show ((0:Nat):Int)=0 from rfl,List.drop_zero] at this
 rw [this]
 unfold cr
 cases as.findIdx? (fun x=>decide (x=bg p)) <;> simp
theorem CX {N:Nat} (hN:1099000000000≤N) (d:bP) (h:zA d.Rules):pO N d=some (de d):=by
 obtain ⟨h1,h2,h3⟩:=h
 unfold pO de
 refine lp' hN d.Rules (by omega) (fun n (s:List aM × List bR) i=>eM N d n s.1 s.2 i) (fun t s=>some (fW s.1 s.2 t)) (fun s t=>s.1.length+oD t≤1048576∧s.2.length+t.length≤1048576∧∀ a∈s.1,qv a) ([],[]) ⟨by simpa using h2,by simpa using h1,by simp⟩ (fun n s i r t g1 g2 g3 g4 g5 g6 gI ih=>?_) (fun n s i g1 g2 gI=>?_)
 ·obtain ⟨i1,i2,i3⟩:=gI
  rw [o7] at i1
  simp only [List.length_cons] at i2
  simp only [eM,g5,if_true,g4,Option.bind_some,fW]
  have key:∀ (as:List aM),as.length+r.Pats.length+oD t≤1048576→(∀ a∈as,qv a)→fq N s.2 (i:Int) (eM N d n) r N as [] [] 0=some (fW (ct as [] [] r.Pats).1 (s.2++[⟨(ct as [] [] r.Pats).2.1,(ct as [] [] r.Pats).2.2⟩]) t):=by
   intro as ha hz
   refine lp' hN r.Pats (by omega) (fun m (u:List aM × List Int × List Int) k=>fq N s.2 (i:Int) (eM N d n) r m u.1 u.2.1 u.2.2 k) (fun l u=>some (fW (ct u.1 u.2.2 u.2.1 l).1 (s.2++[⟨(ct u.1 u.2.2 u.2.1 l).2.1,(ct u.1 u.2.2 u.2.1 l).2.2⟩]) t))
    (fun u l=>u.1.length+l.length+oD t≤1048576∧u.2.1.length+u.2.2.length+l.length≤1048576∧∀ a∈u.1,qv a) (as,[],[]) ⟨ha,by simp; omega,hz⟩ (fun m u k p l f1 f2 f3 f4 f5 f6 fI fh=>?_) (fun m u k f1 f2 fI=>?_)
   ·obtain ⟨j1,j2,j3⟩:=fI
    simp only [List.length_cons] at j1 j2
    have hp:=h3 r g2 p f2
    have hpl:=(rA u.1 (bg p)).1
    have hall:=va j3 (wv hp)
    simp only [fq,f5,if_true,f4,Option.bind_some,E6 hN u.1 s.2 p hp (by omega) j3,f6,ct]
    cases hnot:p.Not with
    | true=>
     simp only [if_true,dG (show u.2.1.length+[(cr u.1 (bg p)).1].length≤4294967296 by simp; omega),Option.bind_some]
     exact fh ((cr u.1 (bg p)).2,u.2.1++[(cr u.1 (bg p)).1],u.2.2) ⟨by simp only; omega,by simp; omega,hall⟩
    | false=>
     simp only [Bool.false_eq_true,if_false,dG (show u.2.2.length+[(cr u.1 (bg p)).1].length≤4294967296 by simp; omega),Option.bind_some]
     exact fh ((cr u.1 (bg p)).2,u.2.1,u.2.2++[(cr u.1 (bg p)).1]) ⟨by simp only; omega,by simp; omega,hall⟩
   ·obtain ⟨j1,j2,j3⟩:=fI
    simp only [fq,f2,Bool.false_eq_true,if_false,dG (show s.2.length+[(⟨u.2.2,u.2.1⟩:bR)].length≤4294967296 by simp; omega),Option.bind_some,g6,ct]
    exact ih (u.1,s.2++[⟨u.2.2,u.2.1⟩]) ⟨by simp only [List.length_nil] at j1 ⊢; omega,by simp; omega,j3⟩
  exact key s.1 (by omega) i3
 ·simp only [eM,g2,Bool.false_eq_true,if_false]; rfl
def sA (d:bP) (n:fj) (nx:Int):List ak→List ak→dI→dI
 | _,[],m=>m
 | done,x :: t,m=>sA d n nx (done++[x]) t (zT d n m ⟨done++[x],nx⟩ x.Id)
theorem Bx {d:bP} {n:fj} {nx:Int} (hc:n.Chains.length=d.Rules.length):∀ (rest done:List ak) (m:dI),done.length+rest.length≤40→qx d n done.length m→qx d n (done.length+rest.length) (sA d n nx done rest m)
 | [],done,m,_,h=>h
 | x :: t,done,m,hl,h=>by
  simp only [List.length_cons] at hl
  have h1:=wx (s:=⟨done++[x],nx⟩) (id:=x.Id) (by omega) (by simp; omega) hc h
  have:=Bx (nx:=nx) hc t (done++[x]) _ (by simp; omega) (by simpa using h1)
  unfold sA
  simpa [Nat.add_assoc,Nat.add_comm 1] using this
def l9:List Int→List Int→Int
 | [],[]=>0
 | [],_ :: _=>-1
 | _ :: _,[]=>1
 | a :: x,b :: y=>if a=b then l9 x y else if a < b then -1 else 1
theorem w6:∀ x y,l9 y x = - l9 x y
 | [],[]=>rfl
 | [],_ :: _=>rfl
 | _ :: _,[]=>rfl
 | a :: x,b :: y=>by
  unfold l9
  by_cases h:a=b
  ·rw [if_pos h,if_pos h.symm,w6 x y]
  ·rw [if_neg h,if_neg fun e=>h e.symm]
   by_cases h':a < b
   ·rw [if_pos h',if_neg (by omega)]; rfl
   ·rw [if_neg h',if_pos (by omega)]
theorem nu:∀ x y,l9 x y=0↔x=y
 | [],[]=>by simp [l9]
 | [],_ :: _=>by simp [l9]
 | _ :: _,[]=>by simp [l9]
 | a :: x,b :: y=>by
  unfold l9
  by_cases h:a=b
  ·rw [if_pos h,nu x y,h]; simp
  ·rw [if_neg h]
   by_cases h':a < b
   ·rw [if_pos h']; simp [h]
   ·rw [if_neg h']; simp [h]
theorem zb:∀ x y z,l9 x y < 0→l9 y z < 0→l9 x z < 0
 | [],[],z,h,_=>absurd h (by simp [l9])
 | [],_ :: _,[],_,h=>absurd h (by simp [l9])
 | [],_ :: _,_ :: _,_,_=>by simp [l9]
 | _ :: _,[],_,h,_=>absurd h (by simp [l9])
 | _ :: _,_ :: _,[],_,h=>absurd h (by simp [l9])
 | a :: x,b :: y,d :: z,h1,h2=>by
  unfold l9 at h1 h2 ⊢
  by_cases e1:a=b
  ·rw [if_pos e1] at h1
   subst e1
   by_cases e2:a=d
   ·rw [if_pos e2] at h2 ⊢
    exact zb x y z h1 h2
   ·rw [if_neg e2] at h2 ⊢; exact h2
  ·rw [if_neg e1] at h1
   have:a < b:=by
    by_cases h:a < b
    ·exact h
    ·rw [if_neg h] at h1; simp at h1
   by_cases e2:b=d
   ·subst e2
    rw [if_neg e1,if_pos this]; decide
   ·rw [if_neg e2] at h2
    have h3:b < d:=by
     by_cases h:b < d
     ·exact h
     ·rw [if_neg h] at h2; simp at h2
    rw [if_neg (by omega),if_pos (by omega)]; decide
def nN {α β:Type} (p:α→β→Bool):List α→List β→Bool
 | [],[]=>true
 | a :: l,b :: m=>p a b && nN p l m
 | _,_=>false
theorem tE {α β:Type} {p:α→β→Bool}:∀ {l:List α} {m:List β},nN p l m=true→l.length=m.length
 | [],[],_=>rfl
 | a :: l,b :: m,h=>by
  simp only [nN,Bool.and_eq_true] at h
  simp [tE h.2]
 | [],_ :: _,h=>by cases h
 | _ :: _,[],h=>by cases h
theorem lp2 {α β γ:Type} (f:Nat→Int→Option γ) (a:List α) (b:List β) (hl:a.length=b.length) (hm:a.length≤4294967296) (p:α→β→Bool) (K Z:Option γ)
  (hs:∀ n (i:Nat) (x:α) (y:β),idx a (i:Int)=some x→idx b (i:Int)=some y→x∈a→y∈b→decide ((i:Int) < (a.length:Int))=true→IntKind.i64.wrap ((i:Int)+1)=((i+1:Nat):Int)→f (n+1) i=if p x y=true then f n ((i+1:Nat):Int) else Z)
  (he:∀ n (i:Nat),decide ((i:Int) < (a.length:Int))=false→i=a.length→f (n+1) i=K) :
  ∀ (n i:Nat),i≤a.length→a.length - i < n→f n i=if nN p (a.drop i) (b.drop i)=true then K else Z:=by
 intro n
 induction n with
 | zero=>intro i _ h; omega
 | succ n ih=>
  intro i hi hn
  by_cases hlt:i < a.length
  ·have hlt':i < b.length:=by omega
   rw [hs n i _ _ (ae hlt) (ae hlt') (List.getElem_mem hlt) (List.getElem_mem hlt') (decide_eq_true (by omega)) (wr1 i (by omega)),ih (i+1) (by omega) (by omega),List.drop_eq_getElem_cons hlt,List.drop_eq_getElem_cons hlt',nN]
   cases p a[i] b[i] <;> simp
  ·rw [he n i (decide_eq_false (by omega)) (by omega),List.drop_of_length_le (by omega),List.drop_of_length_le (by omega)]
   simp [nN]
theorem CI {N:Nat} (x y:List Int) (hm:x.length≤1099000000000):∀ n i:Nat,i≤x.length→i≤y.length→x.length - i < n→bB N x y n i=some (l9 (x.drop i) (y.drop i)):=by
 intro n
 induction n with
 | zero=>intro i _ _ h; omega
 | succ n ih=>
  intro i hi hj hn
  simp only [bB]
  by_cases hlt:i < x.length
  ·have c1:decide ((i:Int) < (x.length:Int))=true:=decide_eq_true (by omega)
   rw [List.drop_eq_getElem_cons hlt]
   by_cases hlt':i < y.length
   ·have c2:decide ((y.length:Int)≤(i:Int))=false:=decide_eq_false (by omega)
    rw [List.drop_eq_getElem_cons hlt',l9]
    simp only [c1,c2,if_true,Bool.false_eq_true,if_false,ae hlt,ae hlt',Option.bind_some,zg,wr1 i (by omega)]
    by_cases he:x[i]=y[i]
    ·have e0:cmp y[i] y[i]=0:=by unfold cmp; simp
     simp only [e0,he,decide_true,Bool.not_true,Bool.false_eq_true,if_false,if_true]
     exact ih (i+1) (by omega) (by omega) (by omega)
    ·have e0:cmp x[i] y[i]≠0:=by unfold cmp; split <;> (try split) <;> omega
     simp only [e0,he,decide_false,Bool.not_false,if_true,if_false]
     unfold cmp
     split
     ·rfl
     ·rw [if_pos (by omega)]
   ·have c2:decide ((y.length:Int)≤(i:Int))=true:=decide_eq_true (by omega)
    rw [List.drop_of_length_le (show y.length≤i by omega)]
    simp only [c1,c2,if_true,ae hlt,Option.bind_some,l9]
  ·have c1:decide ((i:Int) < (x.length:Int))=false:=decide_eq_false (by omega)
   simp only [c1,Bool.false_eq_true,if_false]
   rw [List.drop_of_length_le (show x.length≤i by omega)]
   by_cases hlt':i < y.length
   ·have c2:decide ((x.length:Int) < (y.length:Int))=true:=decide_eq_true (by omega)
    rw [List.drop_eq_getElem_cons hlt',c2]; rfl
   ·have c2:decide ((x.length:Int) < (y.length:Int))=false:=decide_eq_false (by omega)
    rw [List.drop_of_length_le (show y.length≤i by omega),c2]; rfl
def f7 (a b:aD):Int:=if l9 a.Ids b.Ids=0 then l9 a.Hits b.Hits else l9 a.Ids b.Ids
theorem oH {a b:aD}:f7 a b=0↔a=b:=by
 unfold f7
 by_cases h:l9 a.Ids b.Ids=0
 ·rw [if_pos h,nu]
  have:=(nu _ _).1 h
  constructor
  ·intro e; cases a; cases b; simp_all
  ·rintro rfl; rfl
 ·rw [if_neg h]
  exact ⟨fun e=>absurd e h,fun e=>by rw [e] at h; exact absurd ((nu _ _).2 rfl) h⟩
theorem Br (a b:aD):f7 b a = - f7 a b:=by
 unfold f7
 rw [w6 a.Ids b.Ids,w6 a.Hits b.Hits]
 by_cases h:l9 a.Ids b.Ids=0
 ·rw [if_pos h,if_pos (by omega)]
 ·rw [if_neg h,if_neg (by omega)]
theorem oA:vX f7:=by
 refine ⟨fun x=>?_,fun x y z h1 h2=>?_,fun x y h1 h2=>?_⟩
 ·rw [oH.2 rfl]; decide
 ·unfold f7 at h1 h2 ⊢
  by_cases e1:l9 x.Ids y.Ids=0
  ·rw [if_pos e1] at h1
   have q1:=(nu _ _).1 e1
   rw [q1]
   by_cases e2:l9 y.Ids z.Ids=0
   ·rw [if_pos e2] at h2 ⊢
    exact zb _ _ _ h1 h2
   ·rw [if_neg e2] at h2 ⊢; exact h2
  ·rw [if_neg e1] at h1
   by_cases e2:l9 y.Ids z.Ids=0
   ·rw [← (nu _ _).1 e2,if_neg e1]; exact h1
   ·rw [if_neg e2] at h2
    have:=zb _ _ _ h1 h2
    rw [if_neg (by omega)]; exact this
 ·rw [Br x y] at h2
  exact oH.1 (by omega)
def A5 (t:aD):Prop:=t.Ids.length≤4294967296∧t.Hits.length≤4294967296
theorem oY {N:Nat} (hN:1099000000000≤N) (a b:aD) (ha:A5 a):cG N a b=some (f7 a b):=by
 unfold cG cM f7
 have h1:=CI (N:=N) a.Ids b.Ids (by have:=ha.1; omega) N 0 (by omega) (by omega) (by have:=ha.1; omega)
 have h2:=CI (N:=N) a.Hits b.Hits (by have:=ha.2; omega) N 0 (by omega) (by omega) (by have:=ha.2; omega)
 simp only [List.drop_zero] at h1 h2
 rw [show ((0:Nat):Int)=0 from rfl] at h1 h2
 simp only [h1,h2,Option.bind_some,I7 (show 1048578≤N by omega)]
theorem C5 {α:Type} [DecidableEq α]:∀ (l m:List α),l.length=m.length→nN (fun x y=>decide (x=y)) l m=decide (l=m)
 | [],[],_=>by simp [nN]
 | a :: l,b :: m,h=>by
  simp only [nN]
  rw [C5 l m (by simpa using h)]
  by_cases e:a=b <;> simp [e]
 | [],_ :: _,h=>by simp at h
 | _ :: _,[],h=>by simp at h
def qW (a b:aO):Bool:=decide (a.Toks.Perm b.Toks)
def nj (v w:cq):Bool:=nN qW v.Levels w.Levels
def C2 (m x:dI):Bool:=nN (fun a b=>decide (a.L=b.L)) m.Alphas x.Alphas && nN nj m.Rules x.Rules
theorem Ah {N:Nat} (hN:1099000000000≤N) (a b:aO) (hl:a.Toks.length≤4294967296) (ha:∀ t∈a.Toks,A5 t) (hb:∀ t∈b.Toks,A5 t):gO N a b=some (qW a b):=by
 unfold gO qW
 by_cases c:a.Toks.length=b.Toks.length
 ·have c1:decide ((a.Toks.length:Int)=(b.Toks.length:Int))=true:=decide_eq_true (by omega)
  have e1:A1 a.Toks (cG N)=some (srt f7 a.Toks):=CJ hl oA fun x hx y hy=>oY hN x y (ha x hx)
  have e2:A1 b.Toks (cG N)=some (srt f7 b.Toks):=CJ (by omega) oA fun x hx y hy=>oY hN x y (hb x hx)
  have p1:=jU (c:=f7) a.Toks
  have p2:=jU (c:=f7) b.Toks
  have hll:(srt f7 a.Toks).length=(srt f7 b.Toks).length:=by rw [p1.length_eq,p2.length_eq]; exact c
  have hm:(srt f7 a.Toks).length≤4294967296:=by rw [p1.length_eq]; exact hl
  have e3:=lp2 (aC N (srt f7 a.Toks) (srt f7 b.Toks) (kz N)) (srt f7 a.Toks) (srt f7 b.Toks) hll hm (fun x y=>decide (x=y)) (some true) (some false)
   (fun n i x y g1 g2 g3 g4 g5 g6=>by
    have hx:A5 x:=ha x (p1.mem_iff.1 g3)
    simp only [aC,g5,if_true,g1,g2,Option.bind_some,kz,oY hN x y hx,g6]
    by_cases e:x=y
    ·subst e
     have:f7 x x=0:=oH.2 rfl
     simp [this]
    ·have:f7 x y≠0:=fun h=>e (oH.1 h)
     simp [this,e])
   (fun n i g1 g2=>by simp only [aC,g1,Bool.false_eq_true,if_false]) N 0 (by omega) (by omega)
  simp only [List.drop_zero,C5 _ _ hll] at e3
  have c2:decide (((srt f7 a.Toks).length:Int)=((srt f7 b.Toks).length:Int))=true:=decide_eq_true (by omega)
  simp only [c1,Bool.not_true,Bool.false_eq_true,if_false,dJ,gZ hl,gZ (show b.Toks.length≤4294967296 by omega),Option.bind_some,ei,e1,e2,bU,c2]
  rw [show ((0:Nat):Int)=0 from rfl] at e3
  rw [e3]
  by_cases hp:a.Toks.Perm b.Toks
  ·simp [hp,(C7 oA).2 hp]
  ·have hne : ¬ srt f7 a.Toks=srt f7 b.Toks:=fun e=>hp ((C7 oA).1 e)
   simp [hp,hne]
 ·have c1:decide ((a.Toks.length:Int)=(b.Toks.length:Int))=false:=decide_eq_false (by omega)
  simp only [c1,Bool.not_false,if_true]
  rw [decide_eq_false fun h=>c h.length_eq]
def L5 (a:aO):Prop:=a.Toks.length≤4294967296∧∀ t∈a.Toks,A5 t
def Jq (w:cq):Prop:=w.Levels.length≤4294967296∧∀ a∈w.Levels,L5 a
def HH (m:dI):Prop:=(m.Alphas.length≤4294967296∧∀ a∈m.Alphas,a.L.length≤4294967296)∧m.Rules.length≤4294967296∧∀ w∈m.Rules,Jq w
theorem Dd {N:Nat} (hN:1099000000000≤N) (v w:cq) (hv:Jq v) (hw:Jq w):f9 N v w=some (nj v w):=by
 unfold f9 bt nj
 by_cases c:v.Levels.length=w.Levels.length
 ·have e3:=lp2 (aq N v.Levels w.Levels (gO N)) v.Levels w.Levels c hv.1 qW (some true) (some false)
   (fun n i x y g1 g2 g3 g4 g5 g6=>by
    simp only [aq,g5,if_true,g1,g2,Option.bind_some,Ah hN x y (hv.2 x g3).1 (hv.2 x g3).2 (hw.2 y g4).2,g6]
    cases qW x y <;> simp)
   (fun n i g1 g2=>by simp only [aq,g1,Bool.false_eq_true,if_false]) N 0 (by omega) (by have:=hv.1; omega)
  simp only [List.drop_zero] at e3
  rw [show ((0:Nat):Int)=0 from rfl] at e3
  have c1:decide ((v.Levels.length:Int)=(w.Levels.length:Int))=true:=decide_eq_true (by omega)
  simp only [c1,Bool.not_true,Bool.false_eq_true,if_false,e3]
  cases nN qW v.Levels w.Levels <;> rfl
 ·have c1:decide ((v.Levels.length:Int)=(w.Levels.length:Int))=false:=decide_eq_false (by omega)
  simp only [c1,Bool.not_false,if_true,Option.bind_some]
  cases h:nN qW v.Levels w.Levels with
  | false=>rfl
  | true=>exact absurd (tE h) c
theorem E5 {N:Nat} (hN:1099000000000≤N) (m x:dI) (hm:HH m) (hx:HH x):mz N m x=some (C2 m x):=by
 unfold mz C2
 have a1:bu N m.Alphas x.Alphas (ga N)=some (nN (fun a b=>decide (a.L=b.L)) m.Alphas x.Alphas):=by
  unfold bu
  by_cases c:m.Alphas.length=x.Alphas.length
  ·have e3:=lp2 (aA N m.Alphas x.Alphas (ga N)) m.Alphas x.Alphas c hm.1.1 (fun a b=>decide (a.L=b.L)) (some true) (some false)
    (fun n i u v g1 g2 g3 g4 g5 g6=>by
     simp only [aA,g5,if_true,g1,g2,Option.bind_some,ga,EM hN u.L v.L (hm.1.2 u g3),g6]
     by_cases e:u.L=v.L <;> simp [e])
    (fun n i g1 g2=>by simp only [aA,g1,Bool.false_eq_true,if_false]) N 0 (by omega) (by have:=hm.1.1; omega)
   simp only [List.drop_zero] at e3
   rw [show ((0:Nat):Int)=0 from rfl] at e3
   have c1:decide ((m.Alphas.length:Int)=(x.Alphas.length:Int))=true:=decide_eq_true (by omega)
   simp only [c1,Bool.not_true,Bool.false_eq_true,if_false,e3]
   cases nN (fun a b=>decide (a.L=b.L)) m.Alphas x.Alphas <;> rfl
  ·have c1:decide ((m.Alphas.length:Int)=(x.Alphas.length:Int))=false:=decide_eq_false (by omega)
   simp only [c1,Bool.not_false,if_true]
   cases h:nN (fun a b=>decide (a.L=b.L)) m.Alphas x.Alphas with
   | false=>rfl
   | true=>exact absurd (tE h) c
 have a2:bv N m.Rules x.Rules (f9 N)=some (nN nj m.Rules x.Rules):=by
  unfold bv
  by_cases c:m.Rules.length=x.Rules.length
  ·have e3:=lp2 (aB N m.Rules x.Rules (f9 N)) m.Rules x.Rules c hm.2.1 nj (some true) (some false)
    (fun n i u v g1 g2 g3 g4 g5 g6=>by
     simp only [aB,g5,if_true,g1,g2,Option.bind_some,Dd hN u v (hm.2.2 u g3) (hx.2.2 v g4),g6]
     cases nj u v <;> simp)
    (fun n i g1 g2=>by simp only [aB,g1,Bool.false_eq_true,if_false]) N 0 (by omega) (by have:=hm.2.1; omega)
   simp only [List.drop_zero] at e3
   rw [show ((0:Nat):Int)=0 from rfl] at e3
   have c1:decide ((m.Rules.length:Int)=(x.Rules.length:Int))=true:=decide_eq_true (by omega)
   simp only [c1,Bool.not_true,Bool.false_eq_true,if_false,e3]
   cases nN nj m.Rules x.Rules <;> rfl
  ·have c1:decide ((m.Rules.length:Int)=(x.Rules.length:Int))=false:=decide_eq_false (by omega)
   simp only [c1,Bool.not_false,if_true]
   cases h:nN nj m.Rules x.Rules with
   | false=>rfl
   | true=>exact absurd (tE h) c
 simp only [a1,a2,Option.bind_some]
 cases nN (fun a b=>decide (a.L=b.L)) m.Alphas x.Alphas <;> simp
structure IS (j:Nat) (m:dI):Prop where
 la:m.Alphas.length≤1001
 lr:m.Rules.length≤1001
 al:∀ i∈m.Alphas,i.L.length≤j
 rows:∀ w∈m.Rules,w.Levels.length≤3∧∀ k L,w.Levels[k]?=some L→L.Toks.length≤j*100 ^ k∧∀ t∈L.Toks,t.Ids.length≤1000∧t.Hits.length≤1000∧(k+1=w.Levels.length→∀ x∈t.Hits,InR x)
theorem IS.sz {j:Nat} {m:dI} (hj:j≤40) (h:IS j m):HH m:=by
 have h1:=h.la
 have h2:=h.lr
 refine ⟨⟨by omega,fun a ha=>by have:=h.al a ha; omega⟩,by omega,fun w hw=>?_⟩
 obtain ⟨z1,z2⟩:=h.rows w hw
 refine ⟨by omega,fun L hL=>?_⟩
 obtain ⟨k,hk,rfl⟩:=List.getElem_of_mem hL
 obtain ⟨a,b⟩:=z2 k _ (List.getElem?_eq_getElem hk)
 have hp:100 ^ k≤100 ^ 2:=Nat.pow_le_pow_right (by omega) (by omega)
 have:j*100 ^ k≤40*100 ^ 2:=Nat.mul_le_mul hj hp
 refine ⟨by omega,fun t ht=>?_⟩
 have:=b t ht
 exact ⟨by omega,by omega⟩
theorem Bk {d:bP} (hd:gX d=true):∀ r∈d.Rules,r.Pats.length≤6∧1≤(pos r.Pats).length∧(pos r.Pats).length≤3∧(neg r.Pats).length≤6:=fun r hr=>by
 have ho:=lW hd r hr
 have hp:gr r.Pats=true:=by
  unfold hP at ho
  simp only [Bool.and_eq_true] at ho
  exact ho.2.2.1
 have hfc:(pos r.Pats).length=an r.Pats:=qh r.Pats
 have hnl:(neg r.Pats).length≤r.Pats.length:=List.length_filter_le _ _
 unfold gr at hp
 simp only [Bool.and_eq_true,decide_eq_true_eq] at hp
 obtain ⟨⟨_,p1⟩,⟨p2,p3⟩,_⟩:=hp
 exact ⟨p1,by omega,by omega,by omega⟩
theorem CH {d:bP} {n:fj} {j:Nat} {m:dI} (hd:gX d=true) (ha:n.Alphas.length≤1001) (h:qx d n j m):IS j m:=by
 have hrl:d.Rules.length≤12:=by
  unfold gX at hd
  simp only [Bool.and_eq_true,decide_eq_true_eq] at hd
  exact hd.2.1.2
 have h1:=h.la
 have h2:=h.lr
 refine ⟨by omega,by omega,h.al,fun w hw=>?_⟩
 obtain ⟨i,hi,rfl⟩:=List.getElem_of_mem hw
 have hi':i < d.Rules.length:=by omega
 obtain ⟨k1,k2⟩:=h.rows i _ _ (List.getElem?_eq_getElem hi') (List.getElem?_eq_getElem hi)
 obtain ⟨q1,q2,q3,q4⟩:=Bk hd _ (List.getElem_mem hi')
 refine ⟨by omega,fun k L hL=>?_⟩
 obtain ⟨a,b⟩:=k2 k L hL
 have hk:k < m.Rules[i].Levels.length:=(List.getElem?_eq_some_iff.1 hL).1
 refine ⟨a,fun t ht=>?_⟩
 obtain ⟨t1,t2,t3⟩:=b t ht
 exact ⟨by omega,by omega,fun e=>(t3 (by omega)).2⟩
theorem rb {r:af} (h:hP r=true):gr r.Pats=true:=by
 unfold hP at h
 simp only [Bool.and_eq_true] at h
 exact h.2.2.1
theorem BK {r:af} (h:hP r=true):pos r.Pats=r.Pats.take (an r.Pats):=qP (rb h)
theorem wa {B:Nat}:∀ {l:List au},(∀ p∈l,p.Args.length≤B)→d9 l≤l.length*B
 | [],_=>by simp [d9]
 | p :: t,h=>by
  have h1:=wa (l:=t) fun q hq=>h q (by simp [hq])
  have h2:=h p (by simp)
  rw [eI,List.length_cons,Nat.succ_mul]; omega
theorem sm {c:Nat}:∀ (l:List au) (i:Nat),fU c i l=true→∀ p∈l,lm p=true
 | [],_,_,p,hp=>by cases hp
 | x :: t,i,h,p,hp=>by
  unfold fU at h
  simp only [Bool.and_eq_true] at h
  rcases List.mem_cons.1 hp with rfl | hp
  ·exact h.1
  ·exact sm t _ h.2.2 p hp
theorem Cm {r:af} {s:ah} (hr:hP r=true) (hs:dO s=true):w9 r s:=by
 have hp:=rb hr
 unfold hP at hr
 simp only [Bool.and_eq_true,decide_eq_true_eq] at hr
 have hc:=hr.2.2.2.1.2
 unfold gr at hp
 simp only [Bool.and_eq_true,decide_eq_true_eq] at hp
 obtain ⟨⟨_,p1⟩,⟨_,p2⟩,p3⟩:=hp
 have pa:∀ p∈r.Pats,p.Args.length≤5:=fun p hp=>by
  have:=sm _ _ p3 p hp
  unfold lm at this
  simp only [Bool.and_eq_true,decide_eq_true_eq] at this
  omega
 have sa:=wa pa
 unfold dO at hs
 simp only [Bool.and_eq_true,decide_eq_true_eq] at hs
 have xl:=hs.2.1
 refine ⟨by omega,fun p hp=>by have:=pa p hp; omega,by omega,by omega,by omega,?_⟩
 exact Nat.le_trans (Nat.pow_le_pow_left xl _) (Nat.le_trans (Nat.pow_le_pow_right (by omega) p2) (by decide))
theorem y0 {r:af} {s:ah} (hr:hP r=true) (hs:dO s=true):(iW r s.Items).length≤64000:=by
 have hp:=rb hr
 unfold gr at hp
 simp only [Bool.and_eq_true,decide_eq_true_eq] at hp
 obtain ⟨_,⟨_,p2⟩,_⟩:=hp
 unfold dO at hs
 simp only [Bool.and_eq_true,decide_eq_true_eq] at hs
 have xl:=hs.2.1
 have h1:=rE (td r s.Items) s.Items (r.Pats.take (an r.Pats)) [] []
 rw [List.length_take,Nat.min_eq_left (ow r.Pats)] at h1
 exact Nat.le_trans h1 (Nat.le_trans (Nat.pow_le_pow_left xl _) (Nat.le_trans (Nat.pow_le_pow_right (by omega) p2) (by decide)))
def pT (d:bP) (s:ah):List aa:=if (gX d && dO s)=true then fy s.Items 0 d.Rules else []
theorem uC {d:bP} (h:gX d=true):d.Rules.length≤12:=by
 unfold gX at h
 simp only [Bool.and_eq_true,decide_eq_true_eq] at h
 exact h.2.1.2
theorem GP {N:Nat} (hN:1099000000000≤N) (d:bP) (m:dI) (s:ah) (hz:∀ r∈d.Rules,SzP r s.Items) (hr:d.Rules.length≤1048576) (hm:m.Rules.length=d.Rules.length) (hw:∀ w∈m.Rules,w.Levels.length≤1048576∧(nL w).length≤1048576∧∀ t∈nL w,t.Ids.length≤1048576∧t.Hits.length≤1048576) :
  ∀ (n i:Nat) (u:List aa),d.Rules.length - i < n→i≤d.Rules.length→u.length+Dy (m.Rules.drop i)≤4294967296→gz N d m s n u (i:Int)=some (u++BW s.Items i (d.Rules.drop i) (m.Rules.drop i)):=by
 intro n
 induction n with
 | zero=>intro i u h; omega
 | succ n ih=>
  intro i u hn hi hu
  rw [gz]
  by_cases c:i < d.Rules.length
  ·have c1:decide ((i:Int) < (d.Rules.length:Int))=true:=decide_eq_true (by omega)
   have c2:i < m.Rules.length:=by omega
   have d1:decide ((i:Int) < (m.Rules.length:Int))=true:=decide_eq_true (by omega)
   have d2:decide ((m.Rules.length:Int)≤(i:Int))=false:=decide_eq_false (by omega)
   rw [List.drop_eq_getElem_cons c,List.drop_eq_getElem_cons c2,BW]
   rw [List.drop_eq_getElem_cons c2,Dy] at hu
   simp only [c1,d1,d2,if_true,Option.bind_some,ae c,ae c2,Bool.false_eq_true,if_false]
   obtain ⟨w1,w3,w2⟩:=hw _ (List.getElem_mem c2)
   have hzr:=hz _ (List.getElem_mem c)
   by_cases h0:m.Rules[i].Levels.length=0
   ·have e0:decide ((m.Rules[i].Levels.length:Int)=0)=true:=decide_eq_true (by omega)
    have hl:=DD h0
    rw [hl] at hu
    simp only [e0,if_true,wr1 i (by omega),hl]
    have:=ih (i+1) u (by omega) (by omega) (by simpa using hu)
    have e:sK (nq s.Items (i:Int) d.Rules[i] [])=[]:=Fu
    rw [e,List.nil_append]
    exact this
   ·have e0:decide ((m.Rules[i].Levels.length:Int)=0)=false:=decide_eq_false (by omega)
    have hlt:m.Rules[i].Levels.length - 1 < m.Rules[i].Levels.length:=by omega
    have hL:nL m.Rules[i]=m.Rules[i].Levels[m.Rules[i].Levels.length - 1].Toks:=by unfold nL; rw [List.getElem?_eq_getElem hlt]
    simp only [e0,Bool.false_eq_true,if_false,wS1 (x:=m.Rules[i].Levels.length) (by omega) (by omega),ae hlt,Option.bind_some]
    rw [hL] at hu w2 w3 ⊢
    have hsl:=A9 (xs:=s.Items) (i:=(i:Int)) (r:=d.Rules[i]) m.Rules[i].Levels[m.Rules[i].Levels.length - 1].Toks
    have hol:=Ge (nq s.Items (i:Int) d.Rules[i] m.Rules[i].Levels[m.Rules[i].Levels.length - 1].Toks)
    have happ:app u (sK (nq s.Items (i:Int) d.Rules[i] m.Rules[i].Levels[m.Rules[i].Levels.length - 1].Toks))=some (u++sK (nq s.Items (i:Int) d.Rules[i] m.Rules[i].Levels[m.Rules[i].Levels.length - 1].Toks)):=dG (by omega)
    have:=ih (i+1) (u++sK (nq s.Items (i:Int) d.Rules[i] m.Rules[i].Levels[m.Rules[i].Levels.length - 1].Toks)) (by omega) (by omega) (by rw [List.length_append]; omega)
    rw [Hv hN s u i _ d.Rules[i] _ hzr w3 w2,happ,Option.bind_some,wr1 i (by omega),← List.append_assoc]
    exact this
  ·have c1:decide ((i:Int) < (d.Rules.length:Int))=false:=decide_eq_false (by omega)
   have hdr:d.Rules.drop i=[]:=List.drop_of_length_le (by omega)
   have hnil:∀ (k:Nat) (ws:List cq),BW s.Items k [] ws=[]:=fun k ws=>by cases ws <;> rfl
   rw [hdr,hnil]
   simp only [c1,Bool.false_eq_true,if_false,Option.bind_some,List.append_nil]
theorem KL {d:bP} {s:ah} (hd:oB d) (hs:kL s):∀ r∈d.Rules,SzP r s.Items:=fun r hr=>by
 obtain ⟨_,⟨g0,g1⟩,⟨g3,_⟩,_,g2,_⟩:=hd.2.2 r hr
 exact ⟨g0,g2,fun p hp=>(g1 p hp).2.1,g3,hs.1,fun x hx=>(hs.2 x hx).2.1⟩
theorem HC {N:Nat} (hN:1099000000000≤N) {d:bP} {m:dI} {s:ah} (hd:gX d=true) (hsz:oB d) (hs:kL s) {j:Nat} (hj:j≤40) (hi:qx d (de d) j m):nv N d m s=some (BW s.Items 0 d.Rules m.Rules):=by
 have h1:qx d ⟨[],[]⟩ j ⟨[],m.Rules⟩:=⟨rfl,hi.lr,by simp,hi.rows⟩
 have h2:=(CH hd (by simp) h1).rows
 have hrl:=uC hd
 have hw:∀ w∈m.Rules,w.Levels.length≤1048576∧(nL w).length≤400000∧∀ t∈nL w,t.Ids.length≤1048576∧t.Hits.length≤1048576:=fun w hw=>by
  obtain ⟨a,b⟩:=h2 w hw
  refine ⟨by omega,?_⟩
  unfold nL
  split
  ·rename_i L hL
   obtain ⟨c1,c2⟩:=b _ L hL
   have hp:100 ^ (w.Levels.length - 1)≤100 ^ 2:=Nat.pow_le_pow_right (by omega) (by omega)
   have:j*100 ^ (w.Levels.length - 1)≤40*100 ^ 2:=Nat.mul_le_mul hj hp
   refine ⟨by omega,fun t ht=>?_⟩
   have:=c2 t ht
   exact ⟨by omega,by omega⟩
  ·simp
 have hsum:∀ (ws:List cq),(∀ w∈ws,(nL w).length≤400000)→Dy ws≤ws.length*400000:=by
  intro ws
  induction ws with
  | nil=>intro _; simp [Dy]
  | cons w ws ih=>
   intro h
   have a:=h w (by simp)
   have b:=ih fun v hv=>h v (by simp [hv])
   rw [Dy,List.length_cons,Nat.succ_mul]; omega
 have hs1:=hsum m.Rules fun w h=>(hw w h).2.1
 have hlr:=hi.lr
 have:=GP hN d m s (KL hsz hs) (by omega) hi.lr (fun w h=>⟨(hw w h).1,by have:=(hw w h).2.1; omega,(hw w h).2.2⟩) N 0 [] (by omega) (by omega) (by simp; omega)
 unfold nv
 simpa using this
theorem Jo {N:Nat} (hN:1099000000000≤N) {d:bP} {m:dI} {s:ah} (hd:gX d=true) (hsz:oB d) (hs:kL s) (hu:qi s.Items) {j:Nat} (hj:j≤40) (hi:qx d (de d) j m) (hh:xn d (de d) s.Items m):nv N d m s=some (fy s.Items 0 d.Rules):=by
 rw [HC hN hd hsz hs hj hi,Co hu d.Rules m.Rules 0 hi.lr.symm (lW hd) fun k r w e1 e2=>⟨(hi.rows k r w e1 e2).1,hh.rows k r w e1 e2⟩]
theorem IR {d:bP} {n:fj} {nx:Int} (hats:Ats n.Alphas n.Chains d.Rules):∀ (rest done:List ak) (m:dI),done.length+rest.length≤40→((done++rest).map (·.Id)).Nodup→qx d n done.length m→xn d n done m→xn d n (done++rest) (sA d n nx done rest m)
 | [],done,m,_,_,hi,h=>by simpa [sA] using h
 | x :: t,done,m,hl,hn,hi,h=>by
  simp only [List.length_cons] at hl
  have hn':((done++[x]).map (·.Id)).Nodup:=by
   refine List.Nodup.sublist (List.Sublist.map _ ?_) hn
   simp
  have h1:=wx (s:=⟨done++[x],nx⟩) (id:=x.Id) (by omega) (by simp; omega) hats.len hi
  have h2:=JH (nx:=nx) (by omega) hn' hats hi h
  have:=IR (nx:=nx) hats t (done++[x]) _ (by simp; omega) (by simpa using hn) (by simpa using h1) h2
  unfold sA
  simpa using this
theorem Ih {d:bP} {n:fj}:xn d n [] (iT n):=by
 unfold iT
 refine ⟨?_,fun i r w e1 e2=>?_⟩
 ·unfold tL
  refine List.ext_getElem (by simp) fun i h1 h2=>by simp
 ·simp only [List.getElem?_map,Option.map_eq_some_iff] at e2
  obtain ⟨c,hc,rfl⟩:=e2
  intro k L hL
  simp only [xX] at hL
  obtain ⟨_,e⟩:=List.getElem?_eq_some_iff.1 hL
  rw [List.getElem_replicate] at e
  subst e
  refine ⟨⟨by simp [ip],fun q=>?_⟩,by simp⟩
  simp only [ip,List.map_nil,List.not_mem_nil,false_iff,not_and]
  intro hq hk
  have:=l7 _ _ _ hk
  cases q with
  | nil=>simp at hq
  | cons v q=>
   have:=this v (by simp)
   simp [bw] at this
theorem EQ {nx:Int}:∀ (t done:List ak),m5 nx done t=true→(done.Pairwise fun a b=>a.Id < b.Id)→(done++t).Pairwise fun a b=>a.Id < b.Id
 | [],done,_,h=>by simpa using h
 | x :: t,done,ho,h=>by
  unfold m5 at ho
  simp only [Bool.and_eq_true] at ho
  have hb:=ho.2.1
  have h':(done++[x]).Pairwise fun a b=>a.Id < b.Id:=by
   rw [List.pairwise_append]
   refine ⟨h,by simp,fun a ha b hb'=>?_⟩
   simp only [List.mem_singleton] at hb'
   subst hb'
   unfold hU at hb
   rcases List.eq_nil_or_concat done with rfl | ⟨q,y,rfl⟩
   ·cases ha
   ·rw [List.concat_eq_append] at ha hb h
    rw [List.getLast?_concat] at hb
    have hb:=of_decide_eq_true hb
    rcases List.mem_append.1 ha with ha | ha
    ·have:=(List.pairwise_append.1 h).2.2 a ha y (by simp)
     omega
    ·simp only [List.mem_singleton] at ha
     subst ha; exact hb
  have:=EQ t (done++[x]) ho.2.2.2 h'
  simpa using this
theorem sc {s:ah} (h:dO s=true):(s.Items.map (·.Id)).Nodup:=by
 unfold dO at h
 simp only [Bool.and_eq_true] at h
 have:=EQ s.Items [] h.2.2 (by simp)
 rw [List.nil_append] at this
 unfold List.Nodup
 rw [List.pairwise_map]
 exact this.imp fun h=>by omega
theorem vz {α β:Type} {f:α→β→Bool}:∀ (xs:List α) (ys:List β),xs.length=ys.length→(∀ (i:Nat) (x:α) (y:β),xs[i]?=some x→ys[i]?=some y→f x y=true)→nN f xs ys=true
 | [],[],_,_=>rfl
 | [],_ :: _,h,_=>by simp at h
 | _ :: _,[],h,_=>by simp at h
 | x :: xs,y :: ys,h,hf=>by
  unfold nN
  rw [hf 0 x y rfl rfl,vz xs ys (by simpa using h) fun i a b e1 e2=>hf (i+1) a b (by simpa using e1) (by simpa using e2)]
  rfl
theorem Hh {d:bP} {n:fj} {m x:dI} {xs:List ak} {j k:Nat} (hm:qx d n j m) (hx:qx d n k x) (gm:xn d n xs m) (gx:xn d n xs x):C2 m x=true:=by
 unfold C2
 rw [Bool.and_eq_true]
 refine ⟨vz _ _ (by rw [hm.la,hx.la]) fun i a b e1 e2=>?_,vz _ _ (by rw [hm.lr,hx.lr]) fun i v w e1 e2=>?_⟩
 ·rw [gm.al] at e1
  rw [gx.al,e1] at e2
  cases e2
  exact decide_eq_true rfl
 ·have hi:=(List.getElem?_eq_some_iff.1 e1).1
  have hr:d.Rules[i]?=some (d.Rules[i]'(by have:=hm.lr; omega)):=List.getElem?_eq_getElem _
  obtain ⟨l1,_⟩:=hm.rows i _ v hr e1
  obtain ⟨l2,_⟩:=hx.rows i _ w hr e2
  have r1:=gm.rows i _ v hr e1
  have r2:=gx.rows i _ w hr e2
  unfold nj
  refine vz _ _ (by rw [l1,l2]) fun q L M e3 e4=>?_
  obtain ⟨a1,a2⟩:=r1 q L e3
  obtain ⟨b1,b2⟩:=r2 q M e4
  unfold qW
  refine decide_eq_true ?_
  have form:∀ (l:List aD),(∀ t∈l,t.Hits=mR xs (pos (d.Rules[i]'(by have:=hm.lr; omega)).Pats) (neg (d.Rules[i]'(by have:=hm.lr; omega)).Pats) q t.Ids)→l=(ip l).map fun r=>⟨r,mR xs (pos (d.Rules[i]'(by have:=hm.lr; omega)).Pats) (neg (d.Rules[i]'(by have:=hm.lr; omega)).Pats) q r⟩:=fun l hl=>by
   unfold ip
   rw [List.map_map]
   conv=>lhs; rw [← List.map_id l]
   refine List.map_congr_left fun t ht=>?_
   have:=hl t ht
   cases t
   simp only at this
   simp [this]
  rw [form L.Toks a2,form M.Toks b2]
  exact (Has.perm a1 b1).map _
theorem ww {N:Nat} (hN:1099000000000≤N) (d:bP) (s:ah) (hd:gX d=true) (hsz:oB d) (hl:s.Items.length≤40) (hf:∀ x∈s.Items,x.F.Fields.length≤1048576):∀ (rest done:List ak) (k:Nat) (m:dI),rest.length < k→s.Items=done++rest→qx d (de d) done.length m →
  fw N d s (de d) k m.Alphas m.Rules (done.length:Int)=some (sA d (de d) s.Next done rest m)
 | [],done,k,m,hk,hs,h=>by
  obtain ⟨k,rfl⟩:∃ j,k=j+1:=⟨k - 1,by simp at hk; omega⟩
  have c1:decide ((done.length:Int) < (s.Items.length:Int))=false:=decide_eq_false (by rw [hs]; simp)
  simp only [fw,c1,Bool.false_eq_true,if_false,sA]
 | x :: t,done,k,m,hk,hs,h=>by
  obtain ⟨k,rfl⟩:∃ j,k=j+1:=⟨k - 1,by omega⟩
  simp only [List.length_cons] at hk
  have hsl:s.Items.length=done.length+(t.length+1):=by rw [hs]; simp
  have c1:decide ((done.length:Int) < (s.Items.length:Int))=true:=decide_eq_true (by omega)
  have e1:idx s.Items (done.length:Int)=some x:=by rw [hs]; exact ng _ _ _
  have e2:ssl s.Items 0 ((done.length+1:Nat):Int)=some (done++[x]):=by
   rw [Am (by omega),hs]
   congr 1
   rw [show done++x :: t=(done++[x])++t by simp,List.take_left' (by simp)]
  have ok:=Fe (s:=⟨done++[x],s.Next⟩) (id:=x.Id) hd hsz (by simp; omega) (fun y hy=>hf y (by rw [hs]; simp at hy ⊢; rcases hy with hy | hy <;> simp [hy])) (by omega) h
  have hc:(de d).Chains.length=d.Rules.length:=(rd (pJ hd)).2.1.len
  have h1:=wx (s:=⟨done++[x],s.Next⟩) (id:=x.Id) (by omega) (by simp; omega) hc h
  have ih:=ww hN d s hd hsz hl hf t (done++[x]) k (zT d (de d) m ⟨done++[x],s.Next⟩ x.Id) (by omega) (by rw [hs]; simp) (by simpa using h1)
  simp only [List.length_append,List.length_cons,List.length_nil,Nat.zero_add] at ih
  simp only [fw,c1,if_true,e1,e2,Option.bind_some,wr1 done.length (by omega),Ky hN d (de d) _ _ x.Id ok.ok]
  exact ih
theorem C6 {d:bP} {m:dI} {j:Nat} (hd:gX d=true) (hj:j≤40) (hi:qx d (de d) j m):HH m:=by
 obtain ⟨⟨z1,z2⟩,z3,z4⟩:=tj (pJ hd)
 have h1:qx d ⟨[],[]⟩ j ⟨[],m.Rules⟩:=⟨rfl,hi.lr,by simp,hi.rows⟩
 have h2:=(CH hd (by simp) h1).sz hj
 exact ⟨⟨by have:=hi.la; omega,fun i hm=>by have:=hi.al i hm; omega⟩,h2.2.1,h2.2.2⟩
theorem Gz {N:Nat} (hN:1099000000000≤N) {d:bP} {m:dI} {s:ah} (hz:oB d) (hs:kL s) (hd:gX d=true) (hso:dO s=true) {j:Nat} (hj:j≤40) (hi:qx d (de d) j m) (hh:xn d (de d) s.Items m):gH N d m s=some true:=by
 have hl:s.Items.length≤40:=by
  unfold dO at hso
  simp only [Bool.and_eq_true,decide_eq_true_eq] at hso
  exact hso.2.1
 have hnd:=pJ hd
 have hats:=(rd hnd).2.1
 obtain ⟨⟨z1,z2⟩,z3,z4⟩:=tj hnd
 have hm0:=wR hats
 have hlp:=ww hN d s hd hz hl (fun x hx=>(hs.2 x hx).2.1) s.Items [] N (iT (de d)) (by omega) rfl hm0
 simp only [List.length_nil,Int.natCast_zero] at hlp
 have hinv:=Bx (nx:=s.Next) hats.len s.Items [] (iT (de d)) (by simpa using hl) hm0
 have hH:=IR (nx:=s.Next) hats s.Items [] (iT (de d)) (by simpa using hl) (by simpa using sc hso) hm0 Ih
 simp only [List.nil_append,List.length_nil,Nat.zero_add] at hinv hH
 have hmn:=AL hN (de d) z1 z3 (fun c hc=>(z4 c hc).1)
 generalize hx:sA d (de d) s.Next [] s.Items (iT (de d))=x at hlp hinv hH
 have h5:fw N d s (de d) N (iT (de d)).Alphas (iT (de d)).Rules 0=some x:=hlp
 unfold gH
 simp only [Av hN d hz,hd,Option.bind_some,if_true,tY hN s hs,hso]
 unfold ny
 simp only [CX hN d hnd,Option.bind_some,hmn,h5,E5 hN m x (C6 hd hj hi) (C6 hd hl hinv),Hh hi hinv hh hH]
theorem H7 {N:Nat} (hN:1099000000000≤N) (x y:List ax) (hl:x.length≤4294967296):df N x y=some (decide (x=y)):=by
 unfold df
 by_cases c:x.length=y.length
 ·rw [if_neg (by simp; omega)]
  refine (sW (bH N x y) x y c (by omega) (fun a b=>some (decide (a=b))) (fun a _ b _=>rfl) (fun k i=>by simp only [bH,zD,Option.bind_some]) N 0 (by omega) (by omega)).trans ?_
  simp
 ·rw [if_pos (by simp; omega)]
  have : ¬ x=y:=fun e=>c (by rw [e])
  simp [this]
theorem DC (x y:aa):decide (x=y)=(rR x y && decide (x.Binds=y.Binds)):=by
 obtain ⟨a,b,c⟩:=x
 obtain ⟨a',b',c'⟩:=y
 simp only [rR,aa.mk.injEq,← Bool.decide_and,and_assoc]
def Ia (l:List aa):Prop:=l.length≤1048576∧∀ m∈l,m.Ids.length≤1048576∧m.Binds.length≤1048576
theorem DY {N:Nat} (hN:1099000000000≤N) (x y:List aa) (hx:Ia x):mw N x y=some (decide (x=y)):=by
 have hx1:=hx.1
 have key:aQ N x y (eZ N)=some (decide (x=y)):=by
  unfold aQ
  by_cases c:x.length=y.length
  ·rw [if_neg (by simp; omega)]
   refine (sW (aH N x y (eZ N)) x y c (by omega) (eZ N) (fun a ha b _=>?_) (fun k i=>rfl) N 0 (by omega) (by omega)).trans ?_
   ·obtain ⟨h1,h2⟩:=hx.2 a ha
    unfold eZ
    rw [IQ (by omega) a b h1,Option.bind_some,DC]
    cases rR a b with
    | false=>rfl
    | true=>simp only [if_true,H7 hN a.Binds b.Binds (by omega),Option.bind_some,Bool.true_and]
   ·simp
  ·rw [if_pos (by simp; omega)]
   have : ¬ x=y:=fun e=>c (by rw [e])
   simp [this]
 unfold mw
 rw [key,Option.bind_some]
theorem Kr {P:aa→Prop} {xs:List ak}:∀ (t:List af) (i:Nat),(∀ r∈t,∀ m∈iW r xs,∀ j:Nat,P (nr j m))→∀ m∈fy xs i t,P m
 | [],i,_,m,hm=>by simp [fy] at hm
 | r :: t,i,h,m,hm=>by
  unfold fy at hm
  rcases List.mem_append.1 hm with hm | hm
  ·obtain ⟨x,hx,rfl⟩:=List.mem_map.1 hm
   exact h r (by simp) x hx i
  ·exact Kr t (i+1) (fun y hy=>h y (by simp [hy])) m hm
theorem IJ {d:bP} {s:ah} (okd:gX d=true) (oks:dO s=true):Ia (fy s.Items 0 d.Rules):=by
 have hl:=uC okd
 have hr:=lW okd
 have hX:=vh (xs:=s.Items) (M:=64000) d.Rules 0 fun r h=>y0 (hr r h) oks
 have hm:=Kr (xs:=s.Items) (P:=fun m=>m.Ids.length≤1048576∧m.Binds.length≤1048576) d.Rules 0 fun r h m hm j=>by
  have hz:=Cm (hr r h) oks
  have hsz:=AU (GJ r s.Items) s.Items (r.Pats.take (an r.Pats)) [] [] m hm
  have h5:=qt (an r.Pats) r.Pats
  have h6:=hz.sa
  have h7:=hz.pl
  rw [List.length_take] at hsz
  simp only [List.length_nil] at hsz
  show m.Ids.length≤1048576∧m.Binds.length≤1048576
  omega
 exact ⟨by omega,hm⟩
theorem Dp {N:Nat} (hN:1099000000000≤N) (r:af) (s:ah) (l:List ax) (hr:r.Pats.length≤1048576) (hp:∀ p∈r.Pats,p.Args.length≤1048576) (hs:s.Items.length≤1048576) (hb:l.length≤2147483648):mB N r s l=some (kU r.Pats s.Items l):=by
 unfold mB
 refine lp0 hN r.Pats (by omega) (eS N r s l) (fun t=>some (kU t s.Items l)) (fun n i x t g1 g2 g3 g4 g5 g6 g7=>?_) (fun n i g1 g2=>?_)
 ·simp only [eS,g5,if_true,g4,Option.bind_some,FC hN x s l (hp x g2) hs hb,B2,g6,g7,mS]
  unfold kU
  rw [List.any_cons]
  cases (x.Not && s.Items.any fun y=>(cA x y.F l).2) <;> simp
 ·simp only [eS,g2,Bool.false_eq_true,if_false]; rfl
theorem J2 (r:af) (s:ah) (hz:w9 r s) (hnm:s.Items.length ^ (pos r.Pats).length≤1073741824):∀ (k N:Nat) (out:List aa) (ids:List Int) (l:List ax),1099000000001+k≤N→ids.length+k=(pos r.Pats).length→out.length+s.Items.length ^ k≤4294967296 →
  l.length+d9 ((pos r.Pats).drop ids.length)≤1048576→eQ N out r s ids l=some (out++jL (xk r s.Items) s.Items ((pos r.Pats).drop ids.length) ids l):=by
 have hpl:=hz.pl
 have hpp:(pos r.Pats).length≤r.Pats.length:=List.length_filter_le _ _
 intro k
 induction k with
 | zero=>
  intro N out ids l hN hk ho hl
  obtain ⟨N,rfl⟩:∃ M,N=M+1:=⟨N - 1,by omega⟩
  have c1:decide ((ids.length:Int)=((pos r.Pats).length:Int))=true:=decide_eq_true (by omega)
  have e0:(pos r.Pats).drop ids.length=[]:=List.drop_of_length_le (by omega)
  rw [e0]
  simp only [eQ,ra (show 1099000000000≤N by omega) r false hz.pl,zl,Option.bind_some,c1,if_true,Dp (show 1099000000000≤N by omega) r s l hz.pl hz.pa hz.xl (by omega),yu (show 1099000000000≤N by omega) r.Conds l (by have:=hz.cl; omega) (by omega),mS,jL,xk,bZ,bc]
  cases (!kU r.Pats s.Items l && r.Conds.all fun c=>holds c l) with
  | true=>
   simp only [if_true,gZ (show ids.length≤4294967296 by omega),gZ (show l.length≤4294967296 by omega),Option.bind_some,dG (show out.length+[(⟨0,ids,l⟩:aa)].length≤4294967296 by simp at ho ⊢; omega)]
  | false=>simp
 | succ k ih=>
  intro N out ids l hN hk ho hl
  obtain ⟨N,rfl⟩:∃ M,N=M+1:=⟨N - 1,by omega⟩
  have c1:decide ((ids.length:Int)=((pos r.Pats).length:Int))=false:=decide_eq_false (by omega)
  have hi:ids.length < (pos r.Pats).length:=by omega
  have hd:=List.drop_eq_getElem_cons hi
  rw [hd] at hl ⊢
  rw [eI] at hl
  have hpa:=hz.pa _ (List.mem_filter.1 (List.getElem_mem hi)).1
  simp only [eQ,ra (show 1099000000000≤N by omega) r false hz.pl,zl,Option.bind_some,c1,Bool.false_eq_true,if_false,jL]
  have hM:s.Items.length ^ (k+1)=s.Items.length*s.Items.length ^ k:=by rw [Nat.pow_succ,Nat.mul_comm]
  rw [hM] at ho
  have hxl:=hz.xl
  refine lp' (show 1099000000000≤N by omega) s.Items (by omega) (fun n (u:List aa) i=>dU N r s ids l (eQ N) (pos r.Pats) n u i) (fun t u=>some (u++t.flatMap fun x=>if (cA (pos r.Pats)[ids.length] x.F l).2=true then jL (xk r s.Items) s.Items ((pos r.Pats).drop (ids.length+1)) (ids++[x.Id]) (cA (pos r.Pats)[ids.length] x.F l).1 else []))
   (fun u t=>u.length+t.length*s.Items.length ^ k≤4294967296) out ho (fun n u i x t g1 g2 g3 g4 g5 g6 gI gh=>?_) (fun n u i g1 g2 gI=>?_)
  ·rw [List.length_cons,Nat.succ_mul] at gI
   have hml:=kJ (pos r.Pats)[ids.length] x.F l
   simp only [dU,g5,if_true,ae hi,g4,Option.bind_some,tA (show 1099000000000≤N by omega) _ x.F l hpa (by omega),List.flatMap_cons,g6]
   cases hm:(cA (pos r.Pats)[ids.length] x.F l).2 with
   | true=>
    have hrl:=rE (td r s.Items) s.Items ((pos r.Pats).drop (ids.length+1)) (ids++[x.Id]) (cA (pos r.Pats)[ids.length] x.F l).1
    have hdl:((pos r.Pats).drop (ids.length+1)).length=k:=by rw [List.length_drop]; omega
    rw [hdl] at hrl
    have hids:(ids++[x.Id]).length=ids.length+1:=by simp
    have:=ih N u (ids++[x.Id]) (cA (pos r.Pats)[ids.length] x.F l).1 (by omega) (by omega) (by omega) (by rw [hids]; omega)
    rw [hids] at this
    simp only [if_true,bZ,gZ (show ids.length≤4294967296 by omega),dG (show ids.length+[x.Id].length≤4294967296 by simp; omega),Option.bind_some,this,l6,g6]
    rw [gh _ (by rw [List.length_append]; omega),List.append_assoc]
   | false=>
    simp only [Bool.false_eq_true,if_false,List.nil_append]
    exact gh u (by omega)
  ·simp only [dU,g2,Bool.false_eq_true,if_false]; simp
theorem LI {N:Nat} (hN:1099400000000≤N) (r:af) (s:ah) (hz:w9 r s) (hp:pos r.Pats=r.Pats.take (an r.Pats)):jJ N r s=some (iW r s.Items):=by
 unfold jJ iW
 have h2:=ow r.Pats
 have h1:=qt (an r.Pats) r.Pats
 have h3:=hz.pl
 have h4:=hz.sa
 have h5:=hz.nm
 have hl:(pos r.Pats).length=an r.Pats:=by rw [hp,List.length_take]; omega
 have:=J2 r s hz (by rw [hl]; exact h5) (an r.Pats) N [] [] [] (by omega) (by simp [hl]) (by simp; omega) (by rw [hp]; simp; omega)
 rw [this,hp]; simp
theorem JY {N:Nat} (hN:1099400000000≤N) (d:bP) (s:ah) (hl:d.Rules.length≤1048576) (hz:∀ r∈d.Rules,w9 r s∧pos r.Pats=r.Pats.take (an r.Pats)) (M:Nat) (hM:∀ r∈d.Rules,(iW r s.Items).length≤M) (hMl:d.Rules.length*M≤4294967296):pq N d s=some (fy s.Items 0 d.Rules):=by
 unfold pq
 have lp:∀ (n i:Nat) (out:List aa),i≤d.Rules.length→d.Rules.length - i < n→out.length+(d.Rules.length - i)*M≤4294967296→fv N d s n out i=some (out++fy s.Items i (d.Rules.drop i)):=by
  intro n
  induction n with
  | zero=>intro i _ _ h; omega
  | succ n ih=>
   intro i out hi hn ho
   by_cases hlt:i < d.Rules.length
   ·have c1:decide ((i:Int) < (d.Rules.length:Int))=true:=decide_eq_true (by omega)
    obtain ⟨hr,hp⟩:=hz _ (List.getElem_mem hlt)
    have hm:=hM _ (List.getElem_mem hlt)
    have hrl:=BV hr
    rw [List.drop_eq_getElem_cons hlt,fy]
    simp only [fv,c1,if_true,ae hlt,Option.bind_some,LI hN _ s hr hp]
    have ha:(d.Rules.length - i)*M=M+(d.Rules.length - (i+1))*M:=by
     rw [show d.Rules.length - i=(d.Rules.length - (i+1))+1 by omega,Nat.succ_mul]; omega
    rw [ha] at ho
    refine (lp' (show 1099000000000≤N by omega) (iW d.Rules[i] s.Items) (by omega) (fun m (u:List aa) k=>iD N (i:Int) (fv N d s n) (iW d.Rules[i] s.Items) m u k) (fun t u=>some (u++t.map (nr i)++fy s.Items (i+1) (d.Rules.drop (i+1)))) (fun u t=>u.length+t.length+(d.Rules.length - (i+1))*M≤4294967296) out (by omega) (fun m u k x t g1 g2 g3 g4 g5 g6 gI gh=>?_) (fun m u k g1 g2 gI=>?_)).trans (by simp)
    ·simp only [List.length_cons] at gI
     simp only [iD,g5,if_true,g4,Option.bind_some]
     rw [show (⟨(i:Int),x.Ids,x.Binds⟩:aa)=nr i x from rfl,dG (show u.length+[nr i x].length≤4294967296 by simp; omega),Option.bind_some,g6]
     rw [gh _ (by simp; omega)]; simp
    ·simp only [iD,g2,Bool.false_eq_true,if_false,wr1 i (by omega)]
     rw [ih (i+1) u (by omega) (by omega) (by simp at gI; omega)]; simp
   ·have c1:decide ((i:Int) < (d.Rules.length:Int))=false:=decide_eq_false (by omega)
    rw [List.drop_of_length_le (by omega)]
    simp only [fv,c1,Bool.false_eq_true,if_false,fy,List.append_nil]
 have:=lp N 0 [] (by omega) (by omega) (by simpa using hMl)
 simpa using this
theorem Il {N:Nat} (hN:1099400000000≤N) (d:bP) (s:ah) (hd:oB d) (hs:kL s):jj N d s=some (pT d s):=by
 unfold jj pT
 rw [Av (by omega) d hd,Option.bind_some,tY (by omega) s hs]
 cases h1:gX d with
 | false=>simp
 | true=>
  cases h2:dO s with
  | false=>simp
  | true=>
   have hl:=uC h1
   have hr:=lW h1
   have:=JY hN d s (by omega) (fun r h=>⟨Cm (hr r h) h2,BK (hr r h)⟩) 64000 (fun r h=>y0 (hr r h) h2) (by omega)
   simp [this]
theorem Bd {s:ah} (h:dO s=true):qi s.Items:=by
 unfold dO at h
 simp only [Bool.and_eq_true] at h
 have:=EQ s.Items [] h.2.2 (by simp)
 rwa [List.nil_append] at this
theorem Dk {N:Nat} (hN:1099000000000≤N) {b:List Int} (hb:b.length≤1048576):∃ d s,jR N b=some (d,s)∧oB d∧kL s:=by
 unfold jR
 obtain ⟨c,e0,g0⟩:=Ir hN b hb
 obtain ⟨d,c1,e1,g1,hd⟩:=HT hN hb g0
 obtain ⟨s,c2,e2,g2,hs⟩:=Dc hN hb (g1.at (c:=c) g0.1)
 obtain ⟨q,c3,e3,g3,-⟩:=lL (N:=N) hb (g2.at (c:=c) g0.1) 6
 have hS:=uu (yL hs)
 have j1:∀ (d:bP) (x h:Int),oB d→GC b ⟨c.b,x,h⟩→∃ d' s',fQ N c (s,c2) d.Rules x h d.Name=some (d',s')∧oB d'∧kL s':=by
  intro d x h hd gx
  unfold fQ
  obtain ⟨q,c4,e4,g4,-⟩:=lL (N:=N) hb gx 6
  simp only [e4,Option.bind_some,fR]
  cases q with
  | true=>
   obtain ⟨t,c5,e5,g5,ht⟩:=Bn hN hb (g4.at (c:=c) g0.1)
   simp only [if_true,e5,Option.bind_some]
   by_cases hl:12 < t.Items.length
   ·have k1:decide ((12:Int) < (t.Items.length:Int))=true:=decide_eq_true (by omega)
    have k2:ssl t.Items 0 12=some (t.Items.take 12):=by
     unfold ssl
     rw [if_pos ⟨by omega,by omega,by omega⟩]
     rfl
    simp only [k1,if_true,k2,Option.bind_some]
    exact ⟨_,_,rfl,hd,uu (s:=⟨t.Items.take 12,t.Next⟩) ⟨by show (t.Items.take 12).length≤41; simp; omega,fun y hy=>ht.2 y (List.mem_of_mem_take hy)⟩⟩
   ·have k1:decide ((12:Int) < (t.Items.length:Int))=false:=decide_eq_false (by omega)
    simp only [k1,Bool.false_eq_true,if_false]
    exact ⟨_,_,rfl,hd,uu ht⟩
  | false=>
   simp only [Bool.false_eq_true,if_false]
   exact ⟨_,_,rfl,hd,hS⟩
 simp only [e0,e1,e2,e3,Option.bind_some]
 cases q with
 | true=>
  obtain ⟨d',c4,e4,g4,hd'⟩:=Gj hN hb (g3.at (c:=c) g0.1)
  simp only [if_true,e4,Option.bind_some]
  exact j1 d' _ _ (Af hd') (g4.at (c:=c) g0.1)
 | false=>
  simp only [Bool.false_eq_true,if_false]
  exact j1 d _ _ (Af (A4 hd)) (g3.at (c:=c) g0.1)
theorem H6 {N:Nat} (hN:1099000000000≤N) {d:bP} {s:ah} (hz:oB d) (hs:kL s) (hd:gX d=true) (hso:dO s=true):∃ m,lN N d s=some m∧s.Items.length≤40∧qx d (de d) s.Items.length m∧xn d (de d) s.Items m:=by
 have hl:s.Items.length≤40:=by
  unfold dO at hso
  simp only [Bool.and_eq_true,decide_eq_true_eq] at hso
  exact hso.2.1
 have hnd:=pJ hd
 have hats:=(rd hnd).2.1
 obtain ⟨⟨z1,z2⟩,z3,z4⟩:=tj hnd
 have hm0:=wR hats
 have hlp:=ww hN d s hd hz hl (fun x hx=>(hs.2 x hx).2.1) s.Items [] N (iT (de d)) (by omega) rfl hm0
 simp only [List.length_nil,Int.natCast_zero] at hlp
 have hinv:=Bx (nx:=s.Next) hats.len s.Items [] (iT (de d)) (by simpa using hl) hm0
 have hH:=IR (nx:=s.Next) hats s.Items [] (iT (de d)) (by simpa using hl) (by simpa using sc hso) hm0 Ih
 simp only [List.nil_append,List.length_nil,Nat.zero_add] at hinv hH
 have hmn:=AL hN (de d) z1 z3 (fun c hc=>(z4 c hc).1)
 have h5:fw N d s (de d) N (iT (de d)).Alphas (iT (de d)).Rules 0=some (sA d (de d) s.Next [] s.Items (iT (de d))):=hlp
 refine ⟨_,?_,hl,hinv,hH⟩
 unfold lN ny
 simp only [Av hN d hz,hd,tY hN s hs,hso,Option.bind_some,Bool.not_true,Bool.false_eq_true,if_false,CX hN d hnd,hmn,h5]
theorem xH {N:Nat} (hN:1099400000000≤N) (b:List Int):jP N b=some true:=by
 have hN':1099000000000≤N:=by omega
 unfold jP vw
 by_cases hb:b.length≤1048576
 ·have c1:decide (1048576 < (b.length:Int))=false:=decide_eq_false (by omega)
  obtain ⟨d,s,e,hz,hs⟩:=Dk hN' hb
  simp only [c1,Option.bind_some,Bool.false_eq_true,if_false,e,JQ hN' d hz,HB hN' s hs]
  by_cases hok:gX d=true∧dO s=true
  ·obtain ⟨okd,oks⟩:=hok
   obtain ⟨m,e1,hl,hi,hh⟩:=H6 hN' hz hs okd oks
   have e2:=Gz hN' hz hs okd oks hl hi hh
   have e3:=Jo hN' okd hz hs (Bd oks) hl hi hh
   have ea:pT d s=fy s.Items 0 d.Rules:=by unfold pT; rw [okd,oks]; rfl
   have e4:=Il hN d s hz hs
   have e5:=DY hN' _ (fy s.Items 0 d.Rules) (IJ okd oks)
   simp only [e1,Option.bind_some,okd,oks,Bool.not_true,Bool.false_eq_true,if_false,e2,if_true,e3,e4,ea,e5,decide_true,hi.lr]
  ·have hm:lN N d s=some ⟨[],[]⟩:=by
    unfold lN
    rw [Av hN' d hz,Option.bind_some,tY hN' s hs]
    cases h1:gX d with
    | false=>rfl
    | true=>
     cases h2:dO s with
     | false=>rfl
     | true=>exact absurd ⟨h1,h2⟩ hok
   have hms:gH N d ⟨[],[]⟩ s=some false:=by
    unfold gH
    rw [Av hN' d hz,Option.bind_some,tY hN' s hs]
    cases h1:gX d with
    | false=>rfl
    | true=>
     cases h2:dO s with
     | false=>rfl
     | true=>exact absurd ⟨h1,h2⟩ hok
   have hc:(if (!gX d)=true then some true else (some (dO s)).bind fun x6=>some (!x6))=some true:=by
    cases h1:gX d with
    | false=>rfl
    | true=>
     cases h2:dO s with
     | false=>rfl
     | true=>exact absurd ⟨h1,h2⟩ hok
   simp only [Option.bind_some] at hc
   simp only [hm,Option.bind_some,hc,if_true,List.length_nil,hms,Int.natCast_zero,decide_true,Bool.not_false]
 ·have c1:decide (1048576 < (b.length:Int))=true:=decide_eq_true (by omega)
  simp only [c1,Option.bind_some,if_true]
namespace fnBuiltUp
theorem law {x0:List Int} (w0:(WfL (WfI .u8)) x0):jP 1099511627776 x0=some true:=xH (by omega) x0
end fnBuiltUp
end Go.Proofs.YtedmfnmbjglmbaaGreat
