/- Plain laws, one after the other: PLAddItem. -/
import Derived.Test.YtnnkgijdbebnaaaGreatTExactAddItem
import Derived.Test.YtnnkgijdbebnaaaGreatPLib
import Derived.Test.YtnnkgijdbebnaaaGreatWExactAddItemPur
import Derived.Test.YtnnkgijdbebnaaaGreatWExactAddItemMod
namespace Go.Proofs.YtnnkgijdbebnaaaGreat
open Eng
set_option linter.unusedVariables false
set_option linter.unusedSimpArgs false
theorem Nu {N:Nat} (hN:1399000000000≤N) (as:List a9) (cs:List ae) (a:a9) (hl:as.length≤4194304) (h:∀ a∈as,jL a) :
  pj N ⟨as,cs⟩ a=some ((br as a).1,⟨(br as a).2,cs⟩):=by
 unfold pj
 have lp:∀ (n i:Nat),i≤as.length→as.length - i < n→fe N ⟨as,cs⟩ a n i =
   some (match (as.drop i).findIdx? (fun x=>decide (x=a)) with | some j=>((i+j:Nat):Int) | none=>(as.length:Int),⟨match (as.drop i).findIdx? (fun x=>decide (x=a)) with | some j=>as | none=>as++[a],cs⟩):=by
  intro n
  induction n with
  | zero=>intro i _ h; omega
  | succ n ih=>
   intro i hi hn
   by_cases hlt:i < as.length
   ·have c1:decide ((i:Int) < (as.length:Int))=true:=decide_eq_true (by omega)
    rw [List.drop_eq_getElem_cons hlt,List.findIdx?_cons]
    simp only [fe,c1,if_true,an hlt,Option.bind_some,HD hN _ _ (h _ (List.getElem_mem hlt)),wr1 i (by omega),ih (i+1) (by omega) (by omega)]
    by_cases he:as[i]=a
    ·simp [he]
    ·simp only [he,decide_false,Bool.false_eq_true,if_false]
     cases (as.drop (i+1)).findIdx? (fun x=>decide (x=a)) with
     | none=>rfl
     | some j=>simp only [Option.map_some]; rw [show i+(j+1)=i+1+j by omega]
   ·have c1:decide ((i:Int) < (as.length:Int))=false:=decide_eq_false (by omega)
    rw [List.drop_of_length_le (by omega)]
    simp only [fe,c1,Bool.false_eq_true,if_false,bS (show as.length+[a].length≤1099511627776 by simp; omega),Option.bind_some,List.findIdx?_nil]
    have e:IntKind.i64.wrap (((as++[a]).length:Int) - 1)=(as.length:Int):=by
     rw [wr (by simp only [List.length_append,List.length_cons,List.length_nil]; omega) (by simp only [List.length_append,List.length_cons,List.length_nil]; omega)]; simp only [List.length_append,List.length_cons,List.length_nil]; omega
    rw [e]
 have:=lp N 0 (by omega) (by omega)
 rw [show ((0:Nat):Int)=0 from rfl,List.drop_zero] at this
 rw [this]
 unfold br
 cases as.findIdx? (fun x=>decide (x=a)) <;> simp
theorem NK {N:Nat} (hN:1399000000000≤N) (d:bo) (h:A0 d.Rules):qT N d=some (cr d):=by
 obtain ⟨h1,h2,h3⟩:=h
 unfold qT cr
 refine lp' hN d.Rules (by omega) (fun n (s:List a9 × List ae) i=>dH N d n s.1 s.2 i) (fun t s=>some (ef s.1 s.2 t)) (fun s t=>s.1.length+pg t≤1048576∧s.2.length+t.length≤1048576∧∀ a∈s.1,jL a) ([],[]) ⟨by simpa using h2,by simpa using h1,by simp⟩ (fun n s i r t g1 g2 g3 g4 g5 g6 gI ih=>?_) (fun n s i g1 g2 gI=>?_)
 ·obtain ⟨i1,i2,i3⟩:=gI
  rw [oa] at i1
  simp only [List.length_cons] at i2
  simp only [dH,g5,if_true,ef]
  have key:∀ (as:List a9),as.length+r.Pats.length+pg t≤1048576→(∀ a∈as,jL a)→eY N d s.2 (i:Int) (dH N d n) N as [] [] 0=some (ef (bt as [] [] r.Pats).1 (s.2++[⟨(bt as [] [] r.Pats).2.1,(bt as [] [] r.Pats).2.2⟩]) t):=by
   intro as ha hz
   refine lp' hN r.Pats (by omega) (fun m (u:List a9 × List Int × List Int) k=>eY N d s.2 (i:Int) (dH N d n) m u.1 u.2.1 u.2.2 k) (fun l u=>some (ef (bt u.1 u.2.2 u.2.1 l).1 (s.2++[⟨(bt u.1 u.2.2 u.2.1 l).2.1,(bt u.1 u.2.2 u.2.1 l).2.2⟩]) t))
    (fun u l=>u.1.length+l.length+pg t≤1048576∧u.2.1.length+u.2.2.length+l.length≤1048576∧∀ a∈u.1,jL a) (as,[],[]) ⟨ha,by simp; omega,hz⟩ (fun m u k p l f1 f2 f3 f4 f5 f6 fI fh=>?_) (fun m u k f1 f2 fI=>?_)
   ·obtain ⟨j1,j2,j3⟩:=fI
    simp only [List.length_cons] at j1 j2
    have hp:=h3 r g2 p f2
    have hpl:=(sj u.1 (aT p)).1
    have hall:=uQ j3 (vL hp)
    simp only [eY,g4,f5,if_true,f4,Option.bind_some,JW hN p hp,Nu hN u.1 s.2 _ (show u.1.length≤4194304 by omega) j3,f6,bt]
    cases hnot:p.Not with
    | true=>
     simp only [if_true,bS (show u.2.1.length+[(br u.1 (aT p)).1].length≤1099511627776 by simp; omega),Option.bind_some]
     exact fh ((br u.1 (aT p)).2,u.2.1++[(br u.1 (aT p)).1],u.2.2) ⟨by simp only; omega,by simp; omega,hall⟩
    | false=>
     simp only [Bool.false_eq_true,if_false,bS (show u.2.2.length+[(br u.1 (aT p)).1].length≤1099511627776 by simp; omega),Option.bind_some]
     exact fh ((br u.1 (aT p)).2,u.2.1,u.2.2++[(br u.1 (aT p)).1]) ⟨by simp only; omega,by simp; omega,hall⟩
   ·obtain ⟨j1,j2,j3⟩:=fI
    simp only [eY,g4,f2,Bool.false_eq_true,if_false,bS (show s.2.length+[(⟨u.2.2,u.2.1⟩:ae)].length≤1099511627776 by simp; omega),Option.bind_some,g6,bt]
    exact ih (u.1,s.2++[⟨u.2.2,u.2.1⟩]) ⟨by simp only [List.length_nil] at j1 ⊢; omega,by simp; omega,j3⟩
  exact key s.1 (by omega) i3
 ·simp only [dH,g2,Bool.false_eq_true,if_false]; rfl
theorem Ig (e:bk) (h:eu e≤1048576):zt e:=by
 unfold eu dv cl at h
 refine ⟨by omega,⟨by omega,by omega⟩,⟨by omega,by omega⟩⟩
theorem JC (a:bM) (h:es a≤1048576):Dm a:=by
 unfold es at h
 have nn:∀ y∈a.Args,0≤eu y:=fun y _=>ke y
 have:=ac _ _ nn
 exact ⟨by omega,by omega,by omega,fun e he=>Ig e (by have:=dE _ _ nn e he; omega)⟩
theorem AQ (a:be) (h:dv a≤1048576):vr a:=by
 unfold dv cl at h
 exact ⟨by omega,by omega⟩
theorem Je (p:av) (h:et p≤1048576):Df p:=by
 unfold et at h
 have nn:∀ y∈p.Args,0≤dv y:=fun y _=>cL y
 have:=ac _ _ nn
 exact ⟨by omega,by omega,fun a ha=>AQ a (by have:=dE _ _ nn a ha; omega)⟩
theorem Ih (c:bn) (h:fa c≤1048576):Ac c:=by
 unfold fa at h
 have:=cL c.L
 have:=cL c.R
 exact ⟨AQ _ (by omega),AQ _ (by omega)⟩
theorem CQ:∀ (l:List av),(kK l:Int)≤(l.map et).sum
 | []=>by simp [kK]
 | p :: t=>by
  have h1:=CQ t
  have h2:(p.Args.length:Int)≤et p:=by
   unfold et
   have:=ac dv p.Args (fun y _=>cL y)
   omega
  have h3:kK (p :: t)=p.Args.length+kK t:=by simp [kK]
  rw [h3,List.map_cons,List.sum_cons]; omega
theorem zJ:∀ (l:List bM),(mJ l:Int)≤(l.map es).sum
 | []=>by simp [mJ]
 | p :: t=>by
  have h1:=zJ t
  have h2:(p.Args.length:Int)≤es p:=by
   unfold es
   have:=ac eu p.Args (fun y _=>ke y)
   omega
  have h3:mJ (p :: t)=p.Args.length+mJ t:=by simp [mJ]
  rw [h3,List.map_cons,List.sum_cons]; omega
theorem I2 (r:ag) (h:dZ r≤1048576):DK r:=by
 unfold dZ at h
 have n1:∀ y∈r.Pats,0≤et y:=fun y _=>nD y
 have n2:∀ y∈r.Conds,0≤fa y:=fun y _=>lJ y
 have n3:∀ y∈r.Acts,0≤es y:=fun y _=>o6 y
 have s1:=ac _ _ n1
 have s2:=ac _ _ n2
 have s3:=ac _ _ n3
 have s4:=CQ r.Pats
 have s5:=zJ r.Acts
 refine ⟨by omega,⟨by omega,fun p hp=>Je p (by have:=dE _ _ n1 p hp; omega)⟩,⟨by omega,fun p hp=>Ih p (by have:=dE _ _ n2 p hp; omega)⟩,⟨by omega,fun p hp=>JC p (by have:=dE _ _ n3 p hp; omega)⟩,by omega,?_⟩
 have:mJ r.Acts≤1048576:=by omega
 exact this
theorem IG (d:bo) (h:kE d≤1048576):xS d:=by
 unfold kE at h
 have n1:∀ y∈d.Rules,0≤dZ y:=fun y _=>mi y
 have s1:=ac _ _ n1
 exact ⟨by omega,by omega,fun r hr=>I2 r (by have:=dE _ _ n1 r hr; omega)⟩
theorem Ji (s:ah) (h:gj s≤1048576):wt s:=by
 unfold gj at h
 have n4:∀ y∈s.Items,0≤ec y:=fun y _=>lI y
 have s4:=ac _ _ n4
 refine ⟨by omega,fun x hx=>?_⟩
 have h0:=dE _ _ n4 x hx
 have h:ec x≤1048576:=by omega
 unfold ec nw at h
 have nn:∀ y∈x.F.Fields,0≤cl y:=fun y _=>eC y
 have:=ac _ _ nn
 refine ⟨by omega,by omega,fun v hv=>?_⟩
 have h5:=dE _ _ nn v hv
 have h6:cl v≤1048576:=by omega
 unfold cl at h6
 omega
def E0 {α β:Type} (p:α→β→Bool):List α→List β→Bool
 | [],[]=>true
 | a :: l,b :: m=>p a b && E0 p l m
 | _,_=>false
theorem lp2 {α β γ:Type} (f:Nat→Int→Option γ) (a:List α) (b:List β) (hl:a.length=b.length) (hm:a.length≤1099511627776) (p:α→β→Bool) (K Z:Option γ)
  (hs:∀ n (i:Nat) (x:α) (y:β),idx a (i:Int)=some x→idx b (i:Int)=some y→x∈a→y∈b→decide ((i:Int) < (a.length:Int))=true→IntKind.i64.wrap ((i:Int)+1)=((i+1:Nat):Int)→f (n+1) i=if p x y=true then f n ((i+1:Nat):Int) else Z)
  (he:∀ n (i:Nat),decide ((i:Int) < (a.length:Int))=false→i=a.length→f (n+1) i=K) :
  ∀ (n i:Nat),i≤a.length→a.length - i < n→f n i=if E0 p (a.drop i) (b.drop i)=true then K else Z:=by
 intro n
 induction n with
 | zero=>intro i _ h; omega
 | succ n ih=>
  intro i hi hn
  by_cases hlt:i < a.length
  ·have hlt':i < b.length:=by omega
   rw [hs n i _ _ (an hlt) (an hlt') (List.getElem_mem hlt) (List.getElem_mem hlt') (decide_eq_true (by omega)) (wr1 i (by omega)),ih (i+1) (by omega) (by omega),List.drop_eq_getElem_cons hlt,List.drop_eq_getElem_cons hlt',E0]
   cases p a[i] b[i] <;> simp
  ·rw [he n i (decide_eq_false (by omega)) (by omega),List.drop_of_length_le (by omega),List.drop_of_length_le (by omega)]
   simp [E0]
def Lf (t:ab):Prop:=t.Ids.length≤1099511627776∧t.Hits.length≤1099511627776
def Nw (a:aa):Prop:=a.Toks.length≤1099511627776∧∀ t∈a.Toks,Lf t
def LC (w:aF):Prop:=w.Levels.length≤1099511627776∧∀ a∈w.Levels,Nw a
def Hc (m:aA):Prop:=(m.Alphas.length≤1099511627776∧∀ a∈m.Alphas,a.L.length≤1099511627776)∧m.Rules.length≤1099511627776∧∀ w∈m.Rules,LC w
def sY (k h:Int) (t:ab):Bool:=decide ((t.Ids.length:Int)=k) && decide ((t.Hits.length:Int)=h)
theorem Nk {N:Nat} (hN:1399000000000≤N) (l:List ab) (k h:Int) (hl:l.length≤1099511627776):oF N l k h=some (l.all (sY k h)):=by
 unfold oF
 refine lp0 hN l hl (fm N l k h) (fun t=>some (t.all (sY k h))) (fun n i x t g1 g2 g3 g4 g5 g6 g7=>?_) (fun n i g1 g2=>?_)
 ·simp only [fm,g5,if_true,g4,Option.bind_some,g6,g7,List.all_cons,sY]
  by_cases c1:(x.Ids.length:Int)=k
  ·by_cases c2:(x.Hits.length:Int)=h <;> simp [c1,c2]
  ·simp [c1]
 ·simp only [fm,g2,Bool.false_eq_true,if_false]; rfl
def yt (c:ae):Nat→List aa→Bool
 | _,[]=>true
 | i,L :: Ls=>L.Toks.all (sY ((i+1:Nat):Int) (if i+1=c.Pos.length then (c.Neg.length:Int) else 0)) && yt c (i+1) Ls
def ug (c:ae) (w:aF):Bool:=decide (w.Levels.length=c.Pos.length) && yt c 0 w.Levels
def qU (n:bc) (m:aA):Bool:=(decide (m.Alphas.length=n.Alphas.length) && decide (m.Rules.length=n.Chains.length)) && E0 ug n.Chains m.Rules
theorem IU {N:Nat} (hN:1399000000000≤N) (n:bc) (m:aA) (s1:Int) (K:Int→Option Bool) (c:ae) (w:aF) (hc:idx n.Chains s1=some c) (hw:idx m.Rules s1=some w) (hl:w.Levels.length=c.Pos.length) (hlm:w.Levels.length≤1099511627776) (hz:∀ L∈w.Levels,L.Toks.length≤1099511627776) :
  ∀ (k i:Nat),i≤w.Levels.length→w.Levels.length - i < k→bV N n m s1 K c k (i:Int)=if yt c i (w.Levels.drop i)=true then K (IntKind.i64.wrap (s1+1)) else some false:=by
 intro k
 induction k with
 | zero=>intro i _ h; omega
 | succ k ih=>
  intro i hi hk
  by_cases hlt:i < w.Levels.length
  ·have c1:decide ((i:Int) < (c.Pos.length:Int))=true:=decide_eq_true (by omega)
   have ew:IntKind.i64.wrap ((c.Pos.length:Int) - 1)=((c.Pos.length - 1:Nat):Int):=by
    rw [show ((c.Pos.length:Int) - 1)=((c.Pos.length - 1:Nat):Int) by omega]
    exact wr (by omega) (by omega)
   have hzl:=hz _ (List.getElem_mem hlt)
   rw [List.drop_eq_getElem_cons hlt,yt]
   have j:∀ h:Int,fF N m s1 (i:Int) (bV N n m s1 K c k) h=if (w.Levels[i].Toks.all (sY ((i+1:Nat):Int) h) && yt c (i+1) (w.Levels.drop (i+1)))=true then K (IntKind.i64.wrap (s1+1)) else some false:=by
    intro h
    unfold fF
    simp only [hw,Option.bind_some,an hlt,wr1 i (by omega),Nk hN _ _ h hzl,ih (i+1) (by omega) (by omega)]
    cases w.Levels[i].Toks.all (sY ((i+1:Nat):Int) h) <;> simp
   simp only [bV,c1,if_true,ew,hc,Option.bind_some,j]
   by_cases he:i+1=c.Pos.length
   ·have c2:decide ((i:Int)=((c.Pos.length - 1:Nat):Int))=true:=decide_eq_true (by omega)
    rw [c2,if_pos rfl,if_pos he]
   ·have c2:decide ((i:Int)=((c.Pos.length - 1:Nat):Int))=false:=decide_eq_false (by omega)
    rw [c2,if_neg (by simp),if_neg he]
  ·have c1:decide ((i:Int) < (c.Pos.length:Int))=false:=decide_eq_false (by omega)
   rw [List.drop_of_length_le (by omega)]
   simp only [bV,c1,Bool.false_eq_true,if_false,yt,if_true]
theorem K4 {N:Nat} (hN:1399000000000≤N) (n:bc) (m:aA) (hm:Hc m):nt N n m=some (qU n m):=by
 unfold nt qU
 by_cases a1:m.Alphas.length=n.Alphas.length
 ·by_cases a2:m.Rules.length=n.Chains.length
  ·have c1:decide ((m.Alphas.length:Int)=(n.Alphas.length:Int))=true:=decide_eq_true (by omega)
   have c2:decide ((m.Rules.length:Int)=(n.Chains.length:Int))=true:=decide_eq_true (by omega)
   have e3:=lp2 (bF N n m) n.Chains m.Rules a2.symm (by have:=hm.2.1; omega) ug (some true) (some false)
    (fun k i c w g1 g2 g3 g4 g5 g6=>by
     have c3:decide ((i:Int) < (m.Rules.length:Int))=true:=by rw [a2]; exact g5
     have hw:=hm.2.2 w g4
     by_cases hl:w.Levels.length=c.Pos.length
     ·have c4:decide ((w.Levels.length:Int)=(c.Pos.length:Int))=true:=decide_eq_true (by omega)
      have e:=IU hN n m (i:Int) (bF N n m k) c w g1 g2 hl hw.1 (fun L hL=>(hw.2 L hL).1) N 0 (by omega) (by have:=hw.1; omega)
      simp only [List.drop_zero] at e
      rw [show ((0:Nat):Int)=0 from rfl] at e
      simp only [bF,c3,if_true,g1,g2,Option.bind_some,c4,Bool.not_true,Bool.false_eq_true,if_false,e,ug,g6]
      simp only [decide_eq_true hl,Bool.true_and]
     ·have c4:decide ((w.Levels.length:Int)=(c.Pos.length:Int))=false:=decide_eq_false (by omega)
      simp only [bF,c3,if_true,g1,g2,Option.bind_some,c4,Bool.not_false,ug]
      simp only [decide_eq_false hl,Bool.false_and,Bool.false_eq_true,if_false])
    (fun k i g1 g2=>by
     have c3:decide ((i:Int) < (m.Rules.length:Int))=false:=by rw [a2]; exact g1
     simp only [bF,c3,Bool.false_eq_true,if_false]) N 0 (by omega) (by have:=hm.2.1; omega)
   simp only [List.drop_zero] at e3
   rw [show ((0:Nat):Int)=0 from rfl] at e3
   simp only [c1,c2,Bool.not_true,Bool.false_eq_true,if_false,Option.bind_some,e3]
   rw [decide_eq_true a1,decide_eq_true a2]
   cases E0 ug n.Chains m.Rules <;> rfl
  ·have c1:decide ((m.Alphas.length:Int)=(n.Alphas.length:Int))=true:=decide_eq_true (by omega)
   have c2:decide ((m.Rules.length:Int)=(n.Chains.length:Int))=false:=decide_eq_false (by omega)
   simp only [c1,c2,Bool.not_true,Bool.not_false,Bool.false_eq_true,if_false,Option.bind_some,if_true]
   rw [decide_eq_false a2]; simp
 ·have c1:decide ((m.Alphas.length:Int)=(n.Alphas.length:Int))=false:=decide_eq_false (by omega)
  simp only [c1,Bool.not_false,if_true,Option.bind_some]
  rw [decide_eq_false a1]; simp
theorem Ha {d:bo} (hd:lY d=true):∀ r∈d.Rules,r.Pats.length≤6∧1≤(pos r.Pats).length∧(pos r.Pats).length≤3∧(neg r.Pats).length≤6:=fun r hr=>by
 have ho:=vI hd r hr
 have hp:kQ r.Pats=true:=by
  unfold pt at ho
  simp only [Bool.and_eq_true] at ho
  exact ho.2.2.1
 have hfc:(pos r.Pats).length=aj r.Pats:=tL r.Pats
 have hnl:(neg r.Pats).length≤r.Pats.length:=List.length_filter_le _ _
 unfold kQ at hp
 simp only [Bool.and_eq_true,decide_eq_true_eq] at hp
 obtain ⟨⟨_,p1⟩,⟨p2,p3⟩,_⟩:=hp
 exact ⟨p1,by omega,by omega,by omega⟩
theorem Gf {d:bo} {m:aA} (hd:lY d=true) (hs:qU (cr d) m=true):m.Alphas.length=(cr d).Alphas.length∧m.Rules.length=d.Rules.length∧∀ (i:Nat) (r:ag) (w:aF),d.Rules[i]?=some r→m.Rules[i]?=some w →
  w.Levels.length=(pos r.Pats).length∧∀ k L,w.Levels[k]?=some L→∀ t∈L.Toks,t.Ids.length=k+1∧t.Hits.length=if k+1=(pos r.Pats).length then (neg r.Pats).length else 0:=by
 have hats:=(zF (uW hd)).2.1
 unfold qU at hs
 simp only [Bool.and_eq_true,decide_eq_true_eq] at hs
 obtain ⟨⟨s1,s2⟩,s3⟩:=hs
 have hcl:=hats.len
 have hall:∀ (cs:List ae) (ws:List aF),E0 ug cs ws=true→∀ (i:Nat) (c:ae) (w:aF),cs[i]?=some c→ws[i]?=some w→ug c w=true:=by
  intro cs
  induction cs with
  | nil=>intro ws _ i c w h; simp at h
  | cons c cs ih=>
   intro ws ha i c' w h1 h2
   cases ws with
   | nil=>simp at h2
   | cons v ws=>
    simp only [E0,Bool.and_eq_true] at ha
    cases i with
    | zero=>simp at h1 h2; subst h1; subst h2; exact ha.1
    | succ i=>exact ih ws ha.2 i c' w (by simpa using h1) (by simpa using h2)
 have hlv:∀ (c:ae) (Ls:List aa) (i0:Nat),yt c i0 Ls=true→∀ (k:Nat) (L:aa),Ls[k]?=some L→L.Toks.all (sY ((i0+k+1:Nat):Int) (if i0+k+1=c.Pos.length then (c.Neg.length:Int) else 0))=true:=by
  intro c Ls
  induction Ls with
  | nil=>intro i0 _ k L h; simp at h
  | cons M Ls ih=>
   intro i0 ha k L hk
   simp only [yt,Bool.and_eq_true] at ha
   cases k with
   | zero=>simp at hk; subst hk; exact ha.1
   | succ k=>
    have:=ih (i0+1) ha.2 k L (by simpa using hk)
    rw [show i0+(k+1)+1=i0+1+k+1 by omega]; exact this
 refine ⟨s1,by omega,fun i r w e1 e2=>?_⟩
 obtain ⟨hi,hrr⟩:=List.getElem?_eq_some_iff.1 e1
 have hi':i < (cr d).Chains.length:=by omega
 have hat:=hats.get i hi' hi
 rw [hrr] at hat
 have hsh:=hall _ _ s3 i _ w (List.getElem?_eq_getElem hi') e2
 unfold ug at hsh
 simp only [Bool.and_eq_true,decide_eq_true_eq] at hsh
 have hpl:(cr d).Chains[i].Pos.length=(pos r.Pats).length:=hat.1.len
 have hnl:(cr d).Chains[i].Neg.length=(neg r.Pats).length:=hat.2.len
 refine ⟨by omega,fun k L hL t ht=>?_⟩
 have hsk:=hlv _ _ 0 hsh.2 k L hL
 rw [List.all_eq_true] at hsk
 have ht':=hsk t ht
 unfold sY at ht'
 simp only [Bool.and_eq_true,decide_eq_true_eq] at ht'
 obtain ⟨t1,t2⟩:=ht'
 refine ⟨by omega,?_⟩
 by_cases he:k+1=(pos r.Pats).length
 ·rw [if_pos (by omega)] at t2
  rw [if_pos he]; omega
 ·rw [if_neg (by omega)] at t2
  rw [if_neg he]; omega
theorem Dv {xs:List aC} {ps ns:List av} {id:Int} {A:Nat→List Int}:∀ (ls:List aa) (k:Nat) (B F:List ab),vl (fun k=>(A k).length) k (ls.map (·.Toks.length)) B.length F.length→(∀ t∈B,t.Ids.length=k)→(∀ t∈F,t.Ids.length=k) →
  (∀ i L,ls[i]?=some L→∀ t∈L.Toks,t.Ids.length=k+i+1∧t.Hits.length≤ns.length)→(pK xs ps ns id A k ls B F).length=ls.length∧∀ i L,(pK xs ps ns id A k ls B F)[i]?=some L→L.Toks.length≤1099511627776∧∀ t∈L.Toks,t.Ids.length=k+i+1∧t.Hits.length≤ns.length
 | [],k,B,F,h1,h2,h3,h4=>⟨rfl,fun i L h=>by simp [pK] at h⟩
 | M :: Ls,k,B,F,h1,h2,h3,h4=>by
  obtain ⟨f1,f2⟩:=h1
  simp only at f1 f2
  have hm:=xr xs ps ns id k B F (A k)
  have hi:=xd (xs:=xs) (ps:=ps) (ns:=ns) (id:=id) (A:=A k) h2 h3
  have hh:∀ t∈kH xs ps ns id k B F (A k),t.Hits.length≤ns.length:=fun t ht=>by
   unfold kH at ht
   split at ht
   ·exact (qw t ht).2
   ·rcases List.mem_append.1 ht with h | h
    ·obtain ⟨u,hu,h⟩:=List.mem_flatMap.1 h
     exact (qw t h).2
    ·obtain ⟨u,hu,h⟩:=List.mem_flatMap.1 h
     exact (qw t h).2
  have hM:=h4 0 M rfl
  have ih:=Dv (xs:=xs) (ps:=ps) (ns:=ns) (id:=id) (A:=A) Ls (k+1) M.Toks (kH xs ps ns id k B F (A k)) (uX f2 (Nat.le_refl _) hm) (fun t h=>by have:=(hM t h).1; omega) hi (fun i L h t ht=>by
   have:=h4 (i+1) L (by simpa using h) t ht
   omega)
  unfold pK
  refine ⟨by simp [ih.1],fun i L h=>?_⟩
  cases i with
  | zero=>
   simp only [List.getElem?_cons_zero,Option.some.injEq] at h
   subst h
   refine ⟨by rw [List.length_append]; omega,fun t h=>?_⟩
   rcases List.mem_append.1 h with h | h
   ·exact hM t h
   ·exact ⟨by have:=hi t h; omega,hh t h⟩
  | succ i=>
   obtain ⟨a,b⟩:=ih.2 i L (by simpa using h)
   exact ⟨a,fun t ht=>by have:=b t ht; omega⟩
theorem Jq {N:Nat} (hN:1399000000000≤N) (l:List ab) (hl:l.length≤1099511627776) (hz:∀ t∈l,Lf t):j7 N l=some l:=by
 unfold j7
 refine (lp' hN l hl (fun n (u:List ab) i=>cK N l n u i) (fun t u=>some (u++t)) (fun u t=>u.length+t.length≤1099511627776) [] (by simpa using hl) (fun n u i x t g1 g2 g3 g4 g5 g6 gI gh=>?_) (fun n u i g1 g2 gI=>?_)).trans (by simp)
 ·simp only [List.length_cons] at gI
  obtain ⟨z1,z2⟩:=hz x g2
  simp only [cK,g5,if_true,g4,Option.bind_some,iK z1,iK z2,show (⟨x.Ids,x.Hits⟩:ab)=x from rfl,bS (show u.length+[x].length≤1099511627776 by simp; omega),iO,g6]
  rw [gh _ (by simp; omega)]; simp
 ·simp only [cK,g2,Bool.false_eq_true,if_false,List.append_nil]
theorem NV {N:Nat} (hN:1399000000000≤N) (m:aA) (s3:List aF) (s4:Int) (K:List aF→Int→Option aA) (w:aF) (hw:idx m.Rules s4=some w) (hz:LC w) (h3:s3.length+1≤1099511627776) :
  fg N m s3 s4 K N [] 0=K (s3++[w]) (IntKind.i64.wrap (s4+1)):=by
 refine (lp' hN w.Levels hz.1 (fun n (u:List aa) i=>fg N m s3 s4 K n u i) (fun t u=>K (s3++[(⟨u++t⟩:aF)]) (IntKind.i64.wrap (s4+1))) (fun u t=>u.length+t.length≤1099511627776) [] (by simpa using hz.1) (fun n u i x t g1 g2 g3 g4 g5 g6 gI gh=>?_) (fun n u i g1 g2 gI=>?_)).trans (by simp)
 ·simp only [List.length_cons] at gI
  obtain ⟨z1,z2⟩:=hz.2 x g2
  simp only [fg,hw,g5,if_true,g4,Option.bind_some,Jq hN x.Toks z1 z2,show (⟨x.Toks⟩:aa)=x from rfl,bS (show u.length+[x].length≤1099511627776 by simp; omega),g6]
  rw [gh _ (by simp; omega)]; simp
 ·simp only [fg,hw,Option.bind_some,g2,Bool.false_eq_true,if_false,List.append_nil,bS (show s3.length+[(⟨u⟩:aF)].length≤1099511627776 by simpa using h3)]
theorem Na {N:Nat} (hN:1399000000000≤N) (m:aA) (hm:Hc m):p8 N m=some m:=by
 obtain ⟨⟨h1,h2⟩,h3,h4⟩:=hm
 have l2:∀ as:List aS,dR N m as N [] 0=some ⟨as,m.Rules⟩:=by
  intro as
  refine (lp' hN m.Rules h3 (fun n (u:List aF) i=>dR N m as n u i) (fun t u=>some ⟨as,u++t⟩) (fun u t=>u.length+t.length≤1099511627776) [] (by simpa using h3) (fun n u i x t g1 g2 g3 g4 g5 g6 gI gh=>?_) (fun n u i g1 g2 gI=>?_)).trans (by simp)
  ·simp only [List.length_cons] at gI
   simp only [dR,g5,if_true]
   rw [NV hN m u i _ x g4 (h4 x g2) (by omega),g6,gh _ (by simp; omega)]; simp
  ·simp only [dR,g2,Bool.false_eq_true,if_false,List.append_nil]
 unfold p8
 refine (lp' hN m.Alphas h1 (fun n (u:List aS) i=>gm N m n u i) (fun t u=>some ⟨u++t,m.Rules⟩) (fun u t=>u.length+t.length≤1099511627776) [] (by simpa using h1) (fun n u i x t g1 g2 g3 g4 g5 g6 gI gh=>?_) (fun n u i g1 g2 gI=>?_)).trans (by simp)
 ·simp only [List.length_cons] at gI
  simp only [gm,g5,if_true,g4,Option.bind_some,iK (h2 x g2),show (⟨x.L⟩:aS)=x from rfl,bS (show u.length+[x].length≤1099511627776 by simp; omega),g6]
  rw [gh _ (by simp; omega)]; simp
 ·simp only [gm,g2,Bool.false_eq_true,if_false,l2,List.append_nil]
theorem Mp {N:Nat} (hN:1399000000000≤N) (s5:List aa) (s6:Int) (K:List aa→Int→Option aA) (L:aa) (hz:Nw L) (h5:s5.length+1≤1099511627776) :
  fo N s5 s6 K L N [] 0=K (s5++[L]) (IntKind.i64.wrap (s6+1)):=by
 refine (lp' hN L.Toks hz.1 (fun n (u:List ab) i=>fo N s5 s6 K L n u i) (fun t u=>K (s5++[(⟨u++t⟩:aa)]) (IntKind.i64.wrap (s6+1))) (fun u t=>u.length+t.length≤1099511627776) [] (by simpa using hz.1) (fun n u i x t g1 g2 g3 g4 g5 g6 gI gh=>?_) (fun n u i g1 g2 gI=>?_)).trans (by simp)
 ·simp only [List.length_cons] at gI
  obtain ⟨z1,z2⟩:=hz.2 x g2
  simp only [fo,g5,if_true,g4,Option.bind_some,bT,iK z1,iK z2,show (⟨x.Ids,x.Hits⟩:ab)=x from rfl,bS (show u.length+[x].length≤1099511627776 by simp; omega),g6]
  rw [gh _ (by simp; omega)]; simp
 ·simp only [fo,g2,Bool.false_eq_true,if_false,List.append_nil,bS (show s5.length+[(⟨u⟩:aa)].length≤1099511627776 by simpa using h5),Option.bind_some]
theorem Mk {N:Nat} (hN:1399000000000≤N) (s3:List aF) (s4:Int) (K:List aF→Int→Option aA) (w:aF) (hz:LC w) (h3:s3.length+1≤1099511627776) :
  dY N s3 s4 K w N [] 0=K (s3++[w]) (IntKind.i64.wrap (s4+1)):=by
 refine (lp' hN w.Levels hz.1 (fun n (u:List aa) i=>dY N s3 s4 K w n u i) (fun t u=>K (s3++[(⟨u++t⟩:aF)]) (IntKind.i64.wrap (s4+1))) (fun u t=>u.length+t.length≤1099511627776) [] (by simpa using hz.1) (fun n u i x t g1 g2 g3 g4 g5 g6 gI gh=>?_) (fun n u i g1 g2 gI=>?_)).trans (by simp)
 ·simp only [List.length_cons] at gI
  simp only [dY,g5,if_true,g4,Option.bind_some]
  rw [Mp hN u i _ x (hz.2 x g2) (by omega),g6,gh _ (by simp; omega)]; simp
 ·simp only [dY,g2,Bool.false_eq_true,if_false,List.append_nil,bS (show s3.length+[(⟨u⟩:aF)].length≤1099511627776 by simpa using h3),Option.bind_some]
theorem Nt {N:Nat} (hN:1399000000000≤N) (m:aA) (hm:Hc m):oL N m=some m:=by
 obtain ⟨⟨h1,h2⟩,h3,h4⟩:=hm
 have l2:∀ as:List aS,df N m as N [] 0=some ⟨as,m.Rules⟩:=by
  intro as
  refine (lp' hN m.Rules h3 (fun n (u:List aF) i=>df N m as n u i) (fun t u=>some ⟨as,u++t⟩) (fun u t=>u.length+t.length≤1099511627776) [] (by simpa using h3) (fun n u i x t g1 g2 g3 g4 g5 g6 gI gh=>?_) (fun n u i g1 g2 gI=>?_)).trans (by simp)
  ·simp only [List.length_cons] at gI
   simp only [df,g5,if_true,g4,Option.bind_some]
   rw [Mk hN u i _ x (h4 x g2) (by omega),g6,gh _ (by simp; omega)]; simp
  ·simp only [df,g2,Bool.false_eq_true,if_false,List.append_nil]
 unfold oL
 refine (lp' hN m.Alphas h1 (fun n (u:List aS) i=>gw N m n u i) (fun t u=>some ⟨u++t,m.Rules⟩) (fun u t=>u.length+t.length≤1099511627776) [] (by simpa using h1) (fun n u i x t g1 g2 g3 g4 g5 g6 gI gh=>?_) (fun n u i g1 g2 gI=>?_)).trans (by simp)
 ·simp only [List.length_cons] at gI
  simp only [gw,g5,if_true,g4,Option.bind_some,bT,iK (h2 x g2),show (⟨x.L⟩:aS)=x from rfl,bS (show u.length+[x].length≤1099511627776 by simp; omega),g6]
  rw [gh _ (by simp; omega)]; simp
 ·simp only [gw,g2,Bool.false_eq_true,if_false,l2,List.append_nil]
theorem O7 {N:Nat} (hN:1399000000000≤N) (i:Nat) (hi:i≤1099511627776) (K:Int→Option Bool) (L:aa) (h:Int) (hl:L.Toks.length≤1099511627776) :
  f7 N (i:Int) K L h N 0=if L.Toks.all (sY ((i+1:Nat):Int) h)=true then K ((i+1:Nat):Int) else some false:=by
 refine lp0 hN L.Toks hl (f7 N (i:Int) K L h) (fun t=>if t.all (sY ((i+1:Nat):Int) h)=true then K ((i+1:Nat):Int) else some false) (fun n j x t g1 g2 g3 g4 g5 g6 g7=>?_) (fun n j g1 g2=>?_)
 ·simp only [f7,g5,if_true,g4,Option.bind_some,wr1 i (by omega),g6,g7,List.all_cons,sY]
  by_cases c1:(x.Ids.length:Int)=((i+1:Nat):Int)
  ·by_cases c2:(x.Hits.length:Int)=h <;> simp [c1,c2]
  ·simp only [decide_eq_false c1,Bool.not_false,if_true,Option.bind_some,Bool.false_and,Bool.false_eq_true,if_false]
 ·simp only [f7,g2,Bool.false_eq_true,if_false,wr1 i (by omega)]; rfl
theorem NH {N:Nat} (hN:1399000000000≤N) (s1:Int) (K:Int→Option Bool) (c:ae) (w:aF) (hl:w.Levels.length=c.Pos.length) (hlm:w.Levels.length≤1099511627776) (hz:∀ L∈w.Levels,L.Toks.length≤1099511627776) :
  ∀ (k i:Nat),i≤w.Levels.length→w.Levels.length - i < k→bX N s1 K w c k (i:Int)=if yt c i (w.Levels.drop i)=true then K (IntKind.i64.wrap (s1+1)) else some false:=by
 intro k
 induction k with
 | zero=>intro i _ h; omega
 | succ k ih=>
  intro i hi hk
  by_cases hlt:i < w.Levels.length
  ·have c1:decide ((i:Int) < (w.Levels.length:Int))=true:=decide_eq_true (by omega)
   have ew:IntKind.i64.wrap ((c.Pos.length:Int) - 1)=((c.Pos.length - 1:Nat):Int):=by
    rw [show ((c.Pos.length:Int) - 1)=((c.Pos.length - 1:Nat):Int) by omega]
    exact wr (by omega) (by omega)
   have hzl:=hz _ (List.getElem_mem hlt)
   rw [List.drop_eq_getElem_cons hlt,yt]
   have j:∀ h:Int,i7 N (i:Int) (bX N s1 K w c k) w.Levels[i] h=if (w.Levels[i].Toks.all (sY ((i+1:Nat):Int) h) && yt c (i+1) (w.Levels.drop (i+1)))=true then K (IntKind.i64.wrap (s1+1)) else some false:=by
    intro h
    unfold i7
    rw [O7 hN i (by omega) _ _ h hzl,ih (i+1) (by omega) (by omega)]
    cases w.Levels[i].Toks.all (sY ((i+1:Nat):Int) h) <;> simp
   simp only [bX,c1,if_true,ew,an hlt,Option.bind_some,j]
   by_cases he:i+1=c.Pos.length
   ·have c2:decide ((i:Int)=((c.Pos.length - 1:Nat):Int))=true:=decide_eq_true (by omega)
    rw [c2,if_pos rfl,if_pos he]
   ·have c2:decide ((i:Int)=((c.Pos.length - 1:Nat):Int))=false:=decide_eq_false (by omega)
    rw [c2,if_neg (by simp),if_neg he]
  ·have c1:decide ((i:Int) < (w.Levels.length:Int))=false:=decide_eq_false (by omega)
   rw [List.drop_of_length_le (by omega)]
   simp only [bX,c1,Bool.false_eq_true,if_false,yt,if_true]
theorem K6 {N:Nat} (hN:1399000000000≤N) (n:bc) (m:aA) (hm:Hc m):rc N n m=some (qU n m):=by
 unfold rc qU
 by_cases a1:m.Alphas.length=n.Alphas.length
 ·by_cases a2:m.Rules.length=n.Chains.length
  ·have c1:decide ((m.Alphas.length:Int)=(n.Alphas.length:Int))=true:=decide_eq_true (by omega)
   have c2:decide ((m.Rules.length:Int)=(n.Chains.length:Int))=true:=decide_eq_true (by omega)
   have e3:=lp2 (bK N n m) n.Chains m.Rules a2.symm (by have:=hm.2.1; omega) ug (some true) (some false)
    (fun k i c w g1 g2 g3 g4 g5 g6=>by
     have c3:decide ((i:Int) < (m.Rules.length:Int))=true:=by rw [a2]; exact g5
     have hw:=hm.2.2 w g4
     by_cases hl:w.Levels.length=c.Pos.length
     ·have c4:decide ((w.Levels.length:Int)=(c.Pos.length:Int))=true:=decide_eq_true (by omega)
      have e:=NH hN (i:Int) (bK N n m k) c w hl hw.1 (fun L hL=>(hw.2 L hL).1) N 0 (by omega) (by have:=hw.1; omega)
      simp only [List.drop_zero] at e
      rw [show ((0:Nat):Int)=0 from rfl] at e
      simp only [bK,c3,if_true,g1,g2,Option.bind_some,c4,Bool.not_true,Bool.false_eq_true,if_false,e,ug,g6]
      simp only [decide_eq_true hl,Bool.true_and]
     ·have c4:decide ((w.Levels.length:Int)=(c.Pos.length:Int))=false:=decide_eq_false (by omega)
      simp only [bK,c3,if_true,g1,g2,Option.bind_some,c4,Bool.not_false,ug]
      simp only [decide_eq_false hl,Bool.false_and,Bool.false_eq_true,if_false])
    (fun k i g1 g2=>by
     have c3:decide ((i:Int) < (m.Rules.length:Int))=false:=by rw [a2]; exact g1
     simp only [bK,c3,Bool.false_eq_true,if_false]) N 0 (by omega) (by have:=hm.2.1; omega)
   simp only [List.drop_zero] at e3
   rw [show ((0:Nat):Int)=0 from rfl] at e3
   simp only [c1,c2,Bool.not_true,Bool.false_eq_true,if_false,Option.bind_some,e3]
   rw [decide_eq_true a1,decide_eq_true a2]
   cases E0 ug n.Chains m.Rules <;> rfl
  ·have c1:decide ((m.Alphas.length:Int)=(n.Alphas.length:Int))=true:=decide_eq_true (by omega)
   have c2:decide ((m.Rules.length:Int)=(n.Chains.length:Int))=false:=decide_eq_false (by omega)
   simp only [c1,c2,Bool.not_true,Bool.not_false,Bool.false_eq_true,if_false,Option.bind_some,if_true]
   rw [decide_eq_false a2]; simp
 ·have c1:decide ((m.Alphas.length:Int)=(n.Alphas.length:Int))=false:=decide_eq_false (by omega)
  simp only [c1,Bool.not_false,if_true,Option.bind_some]
  rw [decide_eq_false a1]; simp
theorem Ib {N:Nat} (hN:1399000000000≤N) (x y:ae) (h1:x.Pos.length≤1048576) (h2:x.Neg.length≤1048576):eP N x y=some (decide (x=y)):=by
 unfold eP
 simp only [GS hN _ _ (show x.Pos.length≤1099511627776 by omega),GS hN _ _ (show x.Neg.length≤1099511627776 by omega),Option.bind_some,oA]
 obtain ⟨a,b⟩:=x; obtain ⟨c,d⟩:=y
 simp only [ae.mk.injEq,Bool.decide_and]
theorem GB {N:Nat} (hN:1399000000000≤N) (x y:List a9) (hl:x.length≤1048576) (h:∀ a∈x,jL a):aX N x y (dG N)=some (decide (x=y)):=by
 unfold aX
 by_cases c:x.length=y.length
 ·rw [if_neg (by simp; omega)]
  refine (gn (aE N x y (dG N)) x y c (by omega) (dG N) (fun a ha b _=>Hx hN a b (h a ha)) (fun k i=>rfl) N 0 (by omega) (by omega)).trans ?_
  simp
 ·rw [if_pos (by simp; omega)]
  have : ¬ x=y:=fun e=>c (by rw [e])
  simp [this]
theorem Gn {N:Nat} (hN:1399000000000≤N) (x y:List ae) (hl:x.length≤1048576) (h:∀ c∈x,c.Pos.length≤1048576∧c.Neg.length≤1048576):aZ N x y (eP N)=some (decide (x=y)):=by
 unfold aZ
 by_cases c:x.length=y.length
 ·rw [if_neg (by simp; omega)]
  refine (gn (aD N x y (eP N)) x y c (by omega) (eP N) (fun a ha b _=>Ib hN a b (h a ha).1 (h a ha).2) (fun k i=>rfl) N 0 (by omega) (by omega)).trans ?_
  simp
 ·rw [if_pos (by simp; omega)]
  have : ¬ x=y:=fun e=>c (by rw [e])
  simp [this]
theorem KV {N:Nat} (hN:1399000000000≤N) (n:bc) (d:bo) (hd:xS d) (hn:A8 n):td N n d=some (lY d && decide (n=cr d)):=by
 unfold td
 rw [NO hN d hd,Option.bind_some]
 cases ho:lY d with
 | false=>simp
 | true=>
  simp only [Bool.not_true,Bool.false_eq_true,if_false,Kh hN d (uW ho),Option.bind_some,GB hN _ _ hn.1.1 hn.1.2,Gn hN _ _ hn.2.1 hn.2.2,oA,Bool.true_and]
  cases hno:cr d with
  | mk a b=>cases n with | mk x y=>simp only [bc.mk.injEq,Bool.decide_and]
theorem Ki {N:Nat} (hN:1399000000000≤N) (x y:bc) (hx:A8 x):oC N x y=some (decide (x=y)):=by
 obtain ⟨⟨h1,h2⟩,h3,h4⟩:=hx
 have dec:decide (x=y)=(decide (x.Alphas=y.Alphas) && decide (x.Chains=y.Chains)):=by
  obtain ⟨a,b⟩:=x; obtain ⟨c,d⟩:=y
  simp only [bc.mk.injEq,Bool.decide_and]
 unfold oC
 by_cases ha:x.Alphas.length=y.Alphas.length
 ·by_cases hc:x.Chains.length=y.Chains.length
  ·have c1:decide ((x.Alphas.length:Int)=(y.Alphas.length:Int))=true:=decide_eq_true (by omega)
   have c2:decide ((x.Chains.length:Int)=(y.Chains.length:Int))=true:=decide_eq_true (by omega)
   have l2:f9 N x y N 0=some (decide (x.Chains=y.Chains)):=by
    have:=gn (f9 N x y) x.Chains y.Chains hc (by omega) (fun a b=>some (decide (a=b))) (fun a _ b _=>rfl) (fun k i=>?_) N 0 (by omega) (by omega)
    ·simpa using this
    ·simp only [f9]
     by_cases hi:i < (x.Chains.length:Int)
     ·rw [decide_eq_true hi]
      simp only [if_true]
      cases hxi:idx x.Chains i with
      | none=>rfl
      | some c=>
       cases hyi:idx y.Chains i with
       | none=>rfl
       | some e=>
        obtain ⟨_,_,hm⟩:=a7 hxi
        have hcm:=h4 c (List.mem_of_getElem? hm)
        simp only [Option.bind_some,H9 hN c.Pos e.Pos (by omega),H9 hN c.Neg e.Neg (by omega)]
        obtain ⟨c1,c2⟩:=c; obtain ⟨e1,e2⟩:=e
        simp only [ae.mk.injEq]
        by_cases q1:c1=e1 <;> by_cases q2:c2=e2 <;> simp [q1,q2]
     ·rw [decide_eq_false hi]; simp only [Bool.false_eq_true,if_false]
   have l1:dI N x y N 0=some (decide (x.Alphas=y.Alphas) && decide (x.Chains=y.Chains)):=by
    have:∀ (n i:Nat),i≤x.Alphas.length→x.Alphas.length - i < n→dI N x y n i=some (decide (x.Alphas.drop i=y.Alphas.drop i) && decide (x.Chains=y.Chains)):=by
     intro n
     induction n with
     | zero=>intro i _ h; omega
     | succ n ih=>
      intro i hi hn
      by_cases hlt:i < x.Alphas.length
      ·have c3:decide ((i:Int) < (x.Alphas.length:Int))=true:=decide_eq_true (by omega)
       have hlt':i < y.Alphas.length:=by omega
       rw [List.drop_eq_getElem_cons hlt,List.drop_eq_getElem_cons hlt']
       simp only [dI,c3,if_true,an hlt,an hlt',Option.bind_some,HD hN _ _ (h2 _ (List.getElem_mem hlt)),wr1 i (by omega),ih (i+1) (by omega) (by omega),List.cons.injEq]
       by_cases q:x.Alphas[i]=y.Alphas[i] <;> simp [q]
      ·have c3:decide ((i:Int) < (x.Alphas.length:Int))=false:=decide_eq_false (by omega)
       rw [List.drop_of_length_le (by omega),List.drop_of_length_le (by omega)]
       simp only [dI,c3,Bool.false_eq_true,if_false,l2,decide_true,Bool.true_and]
    have:=this N 0 (by omega) (by omega)
    simpa using this
   rw [c1,c2,dec]
   simp only [Bool.not_true,Bool.false_eq_true,if_false,Option.bind_some,l1]
  ·have c1:decide ((x.Alphas.length:Int)=(y.Alphas.length:Int))=true:=decide_eq_true (by omega)
   have c2:decide ((x.Chains.length:Int)=(y.Chains.length:Int))=false:=decide_eq_false (by omega)
   have : ¬ x.Chains=y.Chains:=fun e=>hc (by rw [e])
   rw [c1,c2,dec,decide_eq_false this]
   simp
 ·have c1:decide ((x.Alphas.length:Int)=(y.Alphas.length:Int))=false:=decide_eq_false (by omega)
  have : ¬ x.Alphas=y.Alphas:=fun e=>ha (by rw [e])
  rw [c1,dec,decide_eq_false this]
  simp
theorem KF {N:Nat} (hN:1399000000000≤N) (n:bc) (d:bo) (hd:xS d) (hn:A8 n):tb N n d=some (lY d && decide (n=cr d)):=by
 unfold tb
 rw [NE hN d hd,Option.bind_some]
 cases ho:lY d with
 | false=>simp
 | true=>simp [NK hN d (uW ho),Ki hN n _ hn]
def may (d:bo) (n:bc) (m:aA) (s:ah) (id:Int):Bool:=(lY d && decide (n=cr d)) && (tX s && (qU n m && (aM s.Items id).2))
theorem O6 {N:Nat} (hN:1399000000000≤N) (d:bo) (n:bc) (m:aA) (s:ah) (id:Int) (hd:xS d) (hn:A8 n) (hm:Hc m) (hs:wt s):rb N d n m s id=some (may d n m s id):=by
 unfold rb may
 rw [KV hN n d hd hn,Option.bind_some]
 cases lY d && decide (n=cr d) with
 | false=>simp
 | true=>
  rw [JK hN s hs]
  cases tX s with
  | false=>simp
  | true=>
   rw [K6 hN n m hm]
   cases qU n m with
   | false=>simp
   | true=>simp [wG hN s id hs.1 (fun x hx=>(hs.2 x hx).2.1)]
theorem Oq {N:Nat} (hN:1399000000000≤N) (d:bo) (n:bc) (m:aA) (s:ah) (id:Int) (hd:xS d) (hn:A8 n) (hm:Hc m) (hs:wt s):qL N d n m s id=some (may d n m s id):=by
 unfold qL may
 rw [zC hN s id hs.1 (fun x hx=>(hs.2 x hx).2.1),Option.bind_some,KX hN s hs,KF hN n d hd hn,K4 hN n m hm]
 cases (aM s.Items id).2 <;> cases tX s <;> cases lY d <;> cases decide (n=cr d) <;> cases qU n m <;> rfl
theorem IB (n:bc) (h:kC n≤1048576):A8 n:=by
 unfold kC at h
 have n1:∀ y∈n.Alphas,0≤cT y:=fun y _=>kG y
 have n2:∀ y∈n.Chains,0≤cS y:=fun y _=>kv y
 have s1:=ac _ _ n1
 have s2:=ac _ _ n2
 refine ⟨⟨by omega,fun a ha=>?_⟩,by omega,fun c hc=>?_⟩
 ·have h0:=dE _ _ n1 a ha
  have h1:cT a≤1048576:=by omega
  unfold cT at h1
  have:=ac cl a.Consts (fun y _=>eC y)
  unfold jL
  omega
 ·have h0:=dE _ _ n2 c hc
  have h1:cS c≤1048576:=by omega
  unfold cS at h1
  omega
theorem LZ {x:Int} (h:WfI .i64 x):InR x:=by
 unfold WfI Lit.wf at h
 simp only [Bool.and_eq_true,decide_eq_true_eq] at h
 have e1:IntKind.min .i64 = -9223372036854775808:=by decide
 have e2:IntKind.max .i64=9223372036854775807:=by decide
 unfold InR
 exact wr (by omega) (by omega)
theorem II {A:Nat→Nat} {a:Nat} (hA:∀ k,A k≤a):∀ (Ls:List aa),Ls.length≤3→(a:Int)+1+(Ls.map bW).sum≤1048576→vl A 0 (Ls.map (·.Toks.length)) 0 0:=by
 have tl:∀ L:aa,(L.Toks.length:Int)≤bW L:=fun L=>by
  have:=ac fT L.Toks (fun t _=>nN t)
  unfold bW; omega
 intro Ls hl ht
 cases Ls with
 | nil=>trivial
 | cons L0 t1=>
  have h0:=tl L0
  cases t1 with
  | nil=>
   simp only [List.map_cons,List.map_nil,List.sum_cons,List.sum_nil] at ht
   exact ⟨by simp only [if_true]; omega,trivial⟩
  | cons L1 t2=>
   have h1:=tl L1
   have a1:=hA 1
   cases t2 with
   | nil=>
    simp only [List.map_cons,List.map_nil,List.sum_cons,List.sum_nil] at ht
    refine ⟨by simp only [if_true]; omega,?_,trivial⟩
    show (if 0+1=0 then 1 else L0.Toks.length+(if 0=0 then 1 else 0+0*A 0)*A (0+1))+L1.Toks.length≤1099511627776
    rw [if_neg (by omega),if_pos rfl,Nat.one_mul,Nat.zero_add]
    omega
   | cons L2 t3=>
    have h2:=tl L2
    have a2:=hA 2
    cases t3 with
    | nil=>
     simp only [List.map_cons,List.map_nil,List.sum_cons,List.sum_nil] at ht
     have hm:(L0.Toks.length+A 1)*A 2≤(L0.Toks.length+a)*1048576:=Nat.mul_le_mul (by omega) (by omega)
     refine ⟨by simp only [if_true]; omega,?_,?_,trivial⟩
     ·show (if 0+1=0 then 1 else L0.Toks.length+(if 0=0 then 1 else 0+0*A 0)*A (0+1))+L1.Toks.length≤1099511627776
      rw [if_neg (by omega),if_pos rfl,Nat.one_mul,Nat.zero_add]
      omega
     ·show (if 0+1+1=0 then 1 else L1.Toks.length+(if 0+1=0 then 1 else L0.Toks.length+(if 0=0 then 1 else 0+0*A 0)*A (0+1))*A (0+1+1))+L2.Toks.length≤1099511627776
      rw [if_neg (by omega),if_neg (by omega),if_pos rfl,Nat.one_mul,Nat.zero_add,show 1+1=2 from rfl]
      omega
    | cons L3 t4=>simp only [List.length_cons] at hl; omega
theorem Ja {d:bo} {m:aA} {s:ah} {id:Int} (hd:lY d=true) (hsz:xS d) (hsh:qU (cr d) m=true) (hw:xD m) (ht:gz m≤1048576) (hs:s.Items.length≤1048576) (hf:∀ x∈s.Items,x.F.Fields.length≤1048576):GK d (cr d) m s id:=by
 have hnd:=uW hd
 obtain ⟨_,hats,hal⟩:=zF hnd
 obtain ⟨⟨z1,z2⟩,z3,z4⟩:=IM hnd
 obtain ⟨s1,s2,s3⟩:=Gf hd hsh
 have hrl:d.Rules.length≤1048576:=hsz.2.1
 have nI:∀ y∈m.Alphas,0≤cV y:=fun y _=>lB y
 have nR:∀ y∈m.Rules,0≤er y:=fun y _=>lA y
 have sI:=ac _ _ nI
 have sR:=ac _ _ nR
 have ht':=ht
 unfold gz at ht'
 -- what the alphas have, one more
 have hil:∀ i∈m.Alphas,(i.L.length:Int)≤(m.Alphas.map cV).sum:=fun i hi=>by
  have:=dE _ _ nI i hi
  have e:cV i=(i.L.length:Int):=rfl
  omega
 let a:Nat:=((m.Alphas.map cV).sum).toNat+1
 have ha:(a:Int)=(m.Alphas.map cV).sum+1:=by show ((((m.Alphas.map cV).sum).toNat+1:Nat):Int)=_; omega
 have hA:=ur (f:=(aM s.Items id).1) (id:=id) (B:=((m.Alphas.map cV).sum).toNat) (cr d).Alphas m.Alphas (fun i hi=>by have:=hil i hi; omega)
 have hr:∀ r∈d.Rules,r.Pats.length≤6∧1≤(pos r.Pats).length∧(pos r.Pats).length≤3∧(pos r.Pats).length=aj r.Pats∧pos r.Pats=r.Pats.take (aj r.Pats)∧fO r.Pats≤1048576∧∀ p∈r.Pats,p.Args.length≤1048576:=fun r hr=>by
  have ho:=vI hd r hr
  have hp:kQ r.Pats=true:=by
   unfold pt at ho
   simp only [Bool.and_eq_true] at ho
   exact ho.2.2.1
  have hfl:=FZ hp
  have hfc:(pos r.Pats).length=aj r.Pats:=tL r.Pats
  unfold kQ at hp
  simp only [Bool.and_eq_true,decide_eq_true_eq] at hp
  obtain ⟨⟨_,p1⟩,⟨p2,p3⟩,_⟩:=hp
  obtain ⟨_,⟨_,g1⟩,_,_,g2,_⟩:=hsz.2.2 r hr
  exact ⟨p1,by omega,by omega,hfc,hfl,g2,fun p hp=>(g1 p hp).2.1⟩
 have hmem:∀ (i:Nat) (r:ag),d.Rules[i]?=some r→r∈d.Rules:=fun i r e=>List.mem_of_getElem? e
 -- a network with a rule has a question
 have hne:∀ (i:Nat) (r:ag),d.Rules[i]?=some r→1≤m.Alphas.length:=fun i r e=>by
  obtain ⟨hi,hrr⟩:=List.getElem?_eq_some_iff.1 e
  have hi':i < (cr d).Chains.length:=by rw [hats.len]; exact hi
  have hat:=(hats.get i hi' hi).1
  rw [hrr] at hat
  have hp:=(hr r (hmem i r e)).2.1
  have hkp:0 < (pos r.Pats).length:=by omega
  have hkc:0 < (cr d).Chains[i].Pos.length:=by rw [hat.len]; exact hkp
  have e1:=hat.get 0 hkc hkp
  obtain ⟨_,_,e⟩:=a7 e1
  obtain ⟨q,_⟩:=List.getElem?_eq_some_iff.1 e
  omega
 refine ⟨⟨hs,hf,fun a ha=>(z2 a ha).2,z1,by omega,s1,by rw [hats.len,s2],s2.symm,fun i hi=>by have:=hil i hi; omega,fun i r c w g1 g2 g3=>?_⟩,hats,fun i r w g1 g3=>?_⟩
 ·obtain ⟨q1,q2,q3,q4,q5,q6,q7⟩:=hr r (hmem i r g1)
  obtain ⟨k1,k2⟩:=s3 i r w g1 g3
  have hall:=hne i r g1
  have hlets:∀ k,(An (cW (aM s.Items id).1 id (cr d).Alphas m.Alphas) c k).length≤a:=fun k=>J0 hA c k
  have hrow:=dE _ _ nR w (List.mem_of_getElem? g3)
  refine ⟨⟨by omega,q6,q7⟩,⟨by omega,k1,fun i L hL t ht=>(k2 i L hL t ht).1,fun L hL t ht=>?_,fun k hk=>?_,?_,fun k=>by have:=hlets k; omega⟩⟩
  ·have:=(k2 _ L hL t ht).2
   rw [if_pos (by omega)] at this
   exact this
  ·obtain ⟨hi,hrr⟩:=List.getElem?_eq_some_iff.1 g1
   obtain ⟨hi',hcc⟩:=List.getElem?_eq_some_iff.1 g2
   have hat:=(hats.get i hi' hi).1
   rw [hcc,hrr] at hat
   have hkp:k < (pos r.Pats).length:=by omega
   have hkc:k < c.Pos.length:=by rw [hat.len]; exact hkp
   have e1:=hat.get k hkc hkp
   obtain ⟨a0,a1,e⟩:=a7 e1
   obtain ⟨q,_⟩:=List.getElem?_eq_some_iff.1 e
   have hlt:c.Pos[k].toNat < (cW (aM s.Items id).1 id (cr d).Alphas m.Alphas).length:=by rw [sE,s1]; exact q
   have ecp:c.Pos[k]=((c.Pos[k].toNat:Nat):Int):=by omega
   exact ⟨c.Pos[k],_,an hkc,by rw [ecp]; exact an hlt⟩
  ·refine II hlets w.Levels (by omega) ?_
   have hrow':er w=(w.Levels.length:Int)+(w.Levels.map bW).sum:=rfl
   omega
 ·obtain ⟨q1,q2,q3,q4,q5,q6,q7⟩:=hr r (hmem i r g1)
  refine ⟨⟨by omega,q6,q7,hs,hf,q5⟩,q4,fun L hL t ht x hx=>LZ ?_⟩
  have w1:A3 w:=hw.2.2 w (List.mem_of_getElem? g3)
  have w2:sX L:=w1.2 L (List.mem_of_getElem? hL)
  have w3:xL t:=w2.2 t ht
  exact w3.2.2 x hx
theorem K8 {d:bo} {m:aA} {s:ah} {id:Int} (hd:lY d=true) (ok:GK d (cr d) m s id) (hsh:qU (cr d) m=true) (ht:gz m≤1048576) (ha:(cr d).Alphas.length≤1048576):tO (xM d (cr d) m s id)∧gz (xM d (cr d) m s id)≤1125899906842624:=by
 obtain ⟨s1,s2,s3⟩:=Gf hd hsh
 have hats:=ok.ats
 have hrl:d.Rules.length≤12:=by
  unfold lY at hd
  simp only [Bool.and_eq_true,decide_eq_true_eq] at hd
  exact hd.2.1.2
 have hr:=Ha hd
 have sle:∀ {α:Type} {f:α→Int} {B:Int} (l:List α),(∀ x∈l,f x≤B)→(l.map f).sum≤(l.length:Int)*B:=by
  intro α f B l
  induction l with
  | nil=>intro _; simp
  | cons x t ih=>
   intro h
   have h1:=ih fun y hy=>h y (by simp [hy])
   have h2:=h x (by simp)
   simp only [List.map_cons,List.sum_cons,List.length_cons]
   have:((t.length+1:Nat):Int)*B=(t.length:Int)*B+B:=by rw [Int.natCast_add,Int.add_mul]; simp
   omega
 have nI:∀ y∈m.Alphas,0≤cV y:=fun y _=>lB y
 have nR:∀ y∈m.Rules,0≤er y:=fun y _=>lA y
 have sI:=ac _ _ nI
 have sR:=ac _ _ nR
 have ht':=ht
 unfold gz at ht'
 have hil:∀ i∈m.Alphas,i.L.length≤1048576:=fun i hi=>by
  have:=dE _ _ nI i hi
  have e:cV i=(i.L.length:Int):=rfl
  omega
 have hA:=ur (f:=(aM s.Items id).1) (id:=id) (cr d).Alphas m.Alphas hil
 have hg:=zK (g:=u7 s.Items (cW (aM s.Items id).1 id (cr d).Alphas m.Alphas) (aM s.Items id).1 id) d.Rules (cr d).Chains m.Rules s2.symm (by rw [hats.len,s2])
 have hla:(xM d (cr d) m s id).Alphas.length=m.Alphas.length:=sE _ _
 have hlr:(xM d (cr d) m s id).Rules.length=m.Rules.length:=hg.1
 have hrow:∀ v∈(xM d (cr d) m s id).Rules,v.Levels.length≤3∧∀ L∈v.Levels,L.Toks.length≤1099511627776∧∀ t∈L.Toks,t.Ids.length≤3∧t.Hits.length≤6:=fun v hv=>by
  obtain ⟨i,hi,rfl⟩:=List.getElem_of_mem hv
  obtain ⟨r,c,w,a1,a2,a3,e⟩:=hg.2 i _ (List.getElem?_eq_getElem hi)
  have e':(xM d (cr d) m s id).Rules[i]=u7 s.Items (cW (aM s.Items id).1 id (cr d).Alphas m.Alphas) (aM s.Items id).1 id r c w:=e
  rw [e']
  obtain ⟨k1,k2⟩:=s3 i r w a1 a3
  obtain ⟨q1,q2,q3,q4⟩:=hr r (List.mem_of_getElem? a1)
  obtain ⟨_,ro⟩:=ok.ok.rows i r c w a1 a2 a3
  have hne:=ro.ne
  have hlt:w.Levels.length - 1 < w.Levels.length:=by omega
  have hL:w.Levels[w.Levels.length - 1]?=some w.Levels[w.Levels.length - 1]:=List.getElem?_eq_getElem hlt
  -- the rows, the last level turned
  have htl:(qE s.Items (pos r.Pats) (neg r.Pats) (aM s.Items id).1 1 w).Levels=w.Levels.set (w.Levels.length - 1) ⟨ki s.Items (pos r.Pats) (neg r.Pats) (aM s.Items id).1 1 w.Levels[w.Levels.length - 1].Toks⟩:=by
   unfold qE; rw [hL]
  have hset:=AJ (M:=ki s.Items (pos r.Pats) (neg r.Pats) (aM s.Items id).1 1 w.Levels[w.Levels.length - 1].Toks) hL (xA _)
  have hold:∀ k L,w.Levels[k]?=some L→∀ t∈L.Toks,t.Ids.length=0+k+1∧t.Hits.length≤(neg r.Pats).length:=fun k L hk t ht=>by
   obtain ⟨b1,b2⟩:=k2 k L hk t ht
   refine ⟨by omega,?_⟩
   split at b2 <;> omega
  have hfit:=Dv (xs:=s.Items) (ps:=pos r.Pats) (ns:=neg r.Pats) (id:=id) (A:=An (cW (aM s.Items id).1 id (cr d).Alphas m.Alphas) c) (qE s.Items (pos r.Pats) (neg r.Pats) (aM s.Items id).1 1 w).Levels 0 [] [] (by rw [htl,hset]; exact ro.fit) (by simp) (by simp)
   (fun k L hk t ht=>by
    rw [htl,List.getElem?_set] at hk
    split at hk
    ·rename_i e
     simp only [Option.some.injEq] at hk
     subst hk
     simp only at ht
     unfold ki at ht
     obtain ⟨u,hu,rfl⟩:=List.mem_map.1 ht
     have:=hold _ _ hL u hu
     rw [← e]
     split
     ·simp only [CP]; exact this
     ·exact this
    ·exact hold k L hk t ht)
  have hlen:(qE s.Items (pos r.Pats) (neg r.Pats) (aM s.Items id).1 1 w).Levels.length=w.Levels.length:=by rw [htl]; simp
  refine ⟨by show (pK _ _ _ _ _ _ _ _ _).length≤3; rw [hfit.1,hlen]; omega,fun L hLm=>?_⟩
  obtain ⟨k,hk,rfl⟩:=List.getElem_of_mem hLm
  obtain ⟨f1,f2⟩:=hfit.2 k _ (List.getElem?_eq_getElem hk)
  have hk':k < 3:=by
   have:(u7 s.Items (cW (aM s.Items id).1 id (cr d).Alphas m.Alphas) (aM s.Items id).1 id r c w).Levels.length=w.Levels.length:=by show (pK _ _ _ _ _ _ _ _ _).length=_; rw [hfit.1,hlen]
   omega
  refine ⟨f1,fun t ht=>?_⟩
  have:=f2 t ht
  omega
 have lev:∀ L:aa,L.Toks.length≤1099511627776→(∀ t∈L.Toks,t.Ids.length≤3∧t.Hits.length≤6)→bW L≤10*1099511627776:=fun L h1 h2=>by
  have:=sle (f:=fT) (B:=9) L.Toks fun t h=>by
   have:=h2 t h
   unfold fT; omega
  unfold bW
  omega
 have row:∀ v∈(xM d (cr d) m s id).Rules,lm v∧er v≤3+30*1099511627776:=fun v hv=>by
  obtain ⟨h1,h2⟩:=hrow v hv
  refine ⟨⟨by omega,fun L hL=>⟨(h2 L hL).1,fun t ht=>?_⟩⟩,?_⟩
  ·have:=(h2 L hL).2 t ht
   exact ⟨by omega,by omega⟩
  ·have h3:=sle (f:=bW) (B:=10*1099511627776) v.Levels fun L hL=>lev L (h2 L hL).1 (h2 L hL).2
   unfold er
   omega
 have e1:=sle (f:=cV) (B:=1048577) (xM d (cr d) m s id).Alphas fun x hx=>by have:=hA x hx; unfold cV; omega
 have e2:=sle (f:=er) (B:=3+30*1099511627776) (xM d (cr d) m s id).Rules fun x hx=>(row x hx).2
 refine ⟨⟨⟨by omega,fun x hx=>?_⟩,by omega,fun x hx=>(row x hx).1⟩,?_⟩
 ·have:=hA x hx
  unfold kF; omega
 ·unfold gz
  omega
theorem HV {N:Nat} (hN:1399000000000≤N) (d:bo) (n:bc) (m:aA) (s:ah) (id:Int) (h1:kE d≤1048576) (h2:kC n≤1048576) (h3:gz m≤1048576) (h4:gj s≤1048576) (hw:xD m) :
  ∃ r,pi N d n m s id=some r∧m9 N d n m s id=some r∧tO r∧gz r≤1125899906842624:=by
 have hd:=IG d h1
 have hn:=IB n h2
 have hlim:=zc m h3
 have hsz:Hc m:=⟨⟨hlim.1.1,fun a ha=>hlim.1.2 a ha⟩,hlim.2.1,fun w hw=>⟨(hlim.2.2 w hw).1,fun L hL=>⟨((hlim.2.2 w hw).2 L hL).1,fun t ht=>((hlim.2.2 w hw).2 L hL).2 t ht⟩⟩⟩
 have hs:=Ji s h4
 unfold m9 pi
 rw [Nt hN m hsz,Na hN m hsz,Option.bind_some,Option.bind_some,O6 hN d n m s id hd hn hsz hs,Oq hN d n m s id hd hn hsz hs,Option.bind_some,Option.bind_some]
 cases hmay:may d n m s id with
 | false=>
  simp only [Bool.false_eq_true,if_false]
  exact ⟨m,rfl,rfl,hlim,by omega⟩
 | true=>
  have hmay':=hmay
  unfold may at hmay'
  simp only [Bool.and_eq_true,decide_eq_true_eq] at hmay'
  obtain ⟨⟨m1,rfl⟩,m2,m3,m4⟩:=hmay'
  have ok:=Ja (id:=id) m1 hd m3 hw h3 hs.1 (fun x hx=>(hs.2 x hx).2.1)
  simp only [if_true,Oj hN d (cr d) m s id ok.ok,Nz hN d (cr d) m s id ok,Option.bind_some]
  have:=K8 m1 ok m3 h3 hn.1.1
  exact ⟨xM d (cr d) m s id,rfl,rfl,this.1,this.2⟩
set_option maxRecDepth 10000
theorem vH {x0:bo} (w0:EZ x0) {x1:bc} (w1:EK x1) {x2:aA} (w2:xD x2) {x3:ah} (w3:wD x3) {x4:Int} (w4:(WfI .i64) x4) {N:Nat} (hN0:1399400000000≤N):gt N x0 x1 x2 x3 x4=some true:=by
 have hN:1399000000000≤N:=by omega
 unfold gt
 obtain ⟨v0,hv0,hs0⟩:=Eb hN x0 w0 1048576 (by omega) (by omega)
 rw [hv0]; simp only [Option.bind_some]
 by_cases c0:v0 < 0
 ·rw [if_pos (by simpa using c0)]
 rw [if_neg (by simpa using c0)]
 replace hs0:=hs0.resolve_left c0
 have n0:=GJ x0
 obtain ⟨v1,hv1,hs1⟩:=ET hN x1 w1 v0 (by omega) (by omega)
 rw [hv1]; simp only [Option.bind_some]
 by_cases c1:v1 < 0
 ·rw [if_pos (by simpa using c1)]
 rw [if_neg (by simpa using c1)]
 replace hs1:=hs1.resolve_left c1
 have n1:=Gx x1
 obtain ⟨v2,hv2,hs2⟩:=Ef hN x2 w2 v1 (by omega) (by omega)
 rw [hv2]; simp only [Option.bind_some]
 by_cases c2:v2 < 0
 ·rw [if_pos (by simpa using c2)]
 rw [if_neg (by simpa using c2)]
 replace hs2:=hs2.resolve_left c2
 have n2:=GH x2
 obtain ⟨v3,hv3,hs3⟩:=zL hN x3 w3 v2 (by omega) (by omega)
 rw [hv3]; simp only [Option.bind_some]
 by_cases c3:v3 < 0
 ·rw [if_pos (by simpa using c3)]
 rw [if_neg (by simpa using c3)]
 replace hs3:=hs3.resolve_left c3
 have n3:=Eq x3
 have l0:vW x0:=GU x0 (by omega)
 have l1:w6 x1:=Gt x1 (by omega)
 have l2:tO x2:=zc x2 (by omega)
 have l3:tw x3:=EA x3 (by omega)
 have t0:kE x0≤1048576:=by omega
 have t1:kC x1≤1048576:=by omega
 have t2:gz x2≤1048576:=by omega
 have t3:gj x3≤1048576:=by omega
 obtain ⟨r,hr,hi,rl0,rt0⟩:=HV (N:=N) (by omega) x0 x1 x2 x3 x4 t0 t1 t2 t3 w2
 have mn0:=Hh x0
 have ml0:=GO x0
 obtain ⟨y0_0,mk0⟩:=zd hN x0 l0 (1) (by omega) (by unfold aG; omega)
 have mp0:decide (1+jM x0 < 0)=false:=decide_eq_false (by omega)
 have mn1:=GT x1
 have ml1:=GE x1
 obtain ⟨y1_0,y1_1,mk1⟩:=AP hN x1 l1 (1+jM x0) (by omega) (by unfold aG; omega)
 have mp1:decide (1+jM x0+lh x1 < 0)=false:=decide_eq_false (by omega)
 have mn2:=AU x2
 have ml2:=Ak x2
 obtain ⟨y2_0,y2_1,mk2,-⟩:=uy hN x2 l2 (1+jM x0+lh x1) (by omega) (by unfold aG; omega)
 have mp2:decide (1+jM x0+lh x1+lw x2 < 0)=false:=decide_eq_false (by omega)
 have mn3:=EU x3
 have ml3:=ES x3
 obtain ⟨y3_0,mk3⟩:=xJ hN x3 l3 (1+jM x0+lh x1+lw x2) (by omega) (by unfold aG; omega)
 have mp3:decide (1+jM x0+lh x1+lw x2+lQ x3 < 0)=false:=decide_eq_false (by omega)
 have rn0:=AU (r)
 have rm0:=Ak (r)
 obtain ⟨z0_0,z0_1,rk0,rq0⟩:=uy hN (r) rl0 (1) (by omega) (by unfold aG; omega)
 have rp0:decide (1+lw (r) < 0)=false:=decide_eq_false (by omega)
 simp only [DV hN x0 l0,DG hN x0 x0 l0,DI hN x1 l1,Es hN x1 x1 l1,Em hN x2 l2,wM hN x2 x2 l2,B8 hN x3 l3,Ai hN x3 x3 l3,hr,hi,wM hN  (r) (r) rl0,mk0,mp0,mk1,mp1,mk2,mp2,mk3,mp3,rk0,rq0,rp0,tf,gx,gy,Option.bind_some,decide_true,bne_self_eq_false,Bool.not_true,Bool.not_false,Bool.false_eq_true,if_false,if_true]
namespace fnExactAddItem
theorem law {x0:bo} (w0:EZ x0) {x1:bc} (w1:EK x1) {x2:aA} (w2:xD x2) {x3:ah} (w3:wD x3) {x4:Int} (w4:(WfI .i64) x4):gt 1399511627776 x0 x1 x2 x3 x4=some true:=vH w0 w1 w2 w3 w4 (by omega)
end fnExactAddItem
end Go.Proofs.YtnnkgijdbebnaaaGreat
