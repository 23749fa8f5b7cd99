/- Plain laws, one after the other: PLMemSound. -/
import Derived.Test.YtiljnppocjgkkaaGreatTExactMemSound
import Derived.Test.YtiljnppocjgkkaaGreatPLib
import Derived.Test.YtiljnppocjgkkaaGreatWExactMemSoundPur
import Derived.Test.YtiljnppocjgkkaaGreatWExactMemSoundMod
namespace Go.Proofs.YtiljnppocjgkkaaGreat
open Eng
set_option linter.unusedVariables false
set_option linter.unusedSimpArgs false
theorem Jy {N:Nat} (hN:1099000000000≤N) (f:av) (h:CN f):oy N f=some (sZ f):=by
 obtain ⟨h1,h2,h3⟩:=h
 unfold oy sZ qF
 have d1:decide ((f.Fields.length:Int)≤5)=decide (f.Fields.length≤5):=by rw [decide_eq_decide]; omega
 have l1:dO N f.Fields N 0=some (f.Fields.all sO && decide (f.Fields.length≤5)):=lp0 hN f.Fields (by omega) (dO N f.Fields) (fun t=>some (t.all sO && decide (f.Fields.length≤5))) (fun n i x t g1 g2 g3 g4 g5 g6 g7=>by
  simp only [dO,g5,if_true,g4,Option.bind_some,HI (show 1048578≤N by omega) x (h3 x g2),DO (show 1048578≤N by omega) x (h3 x g2),g6,g7,List.all_cons]
  cases sO x <;> simp) (fun n i g1 g2=>by simp only [dO,g2,Bool.false_eq_true,if_false,d1]; rfl)
 simp only [ql hN _ h1,Option.bind_some,l1,n9]
theorem EE {done t:List an} {x:an} (h:∀ y∈done,y.Id < x.Id):decide (En (done++x :: t) x.F=x.Id)=done.all fun y=>!decide (x.F=y.F):=by
 induction done with
 | nil=>
  rw [List.nil_append,u9,if_pos rfl]; simp
 | cons y d ih=>
  rw [List.cons_append,u9,List.all_cons]
  by_cases he:y.F=x.F
  ·have:=h y (by simp)
   rw [if_pos he]
   have e2:decide (x.F=y.F)=true:=decide_eq_true he.symm
   rw [e2,decide_eq_false (by omega)]; simp
  ·rw [if_neg he,ih fun z hz=>h z (by simp [hz])]
   have e2:decide (x.F=y.F)=false:=decide_eq_false (fun e=>he e.symm)
   rw [e2]; simp
theorem GS {N:Nat} (hN:1099000000000≤N) (s:ae) (h:BL s):m9 N s=some (pf s):=by
 obtain ⟨h1,h2⟩:=h
 unfold m9 pf
 have d1:decide ((40:Int) < (s.Items.length:Int)) = !decide (s.Items.length≤40):=by rw [← decide_not,decide_eq_decide]; omega
 have lp:∀ (n i:Nat),i≤s.Items.length→s.Items.length - i < n→(∀ y∈s.Items.take i,∀ z,(s.Items.take i).getLast?=some z→y.Id≤z.Id)→fa N s n i=some (lM s.Next (s.Items.take i) (s.Items.drop i)):=by
  intro n
  induction n with
  | zero=>intro i _ h; omega
  | succ n ih=>
   intro i hi hm hup
   simp only [fa]
   by_cases hlt:i < s.Items.length
   ·have c1:decide ((i:Int) < (s.Items.length:Int))=true:=decide_eq_true (by omega)
    have hf:=h2 _ (List.getElem_mem hlt)
    have hprev:(if decide (0 < (i:Int))=true then (idx s.Items (IntKind.i64.wrap ((i:Int) - 1))).bind fun x5=>some (decide (s.Items[i].Id≤x5.Id)) else some false)=some (!(ge (s.Items.take i) s.Items[i].Id)):=by
     by_cases h0:0 < i
     ·have e1:IntKind.i64.wrap ((i:Int) - 1)=((i - 1:Nat):Int):=by rw [wr (by omega) (by omega)]; omega
      unfold ge; rw [CA h0 hi,decide_eq_true (show (0:Int) < (i:Int) by omega),e1]
      simp only [if_true,ag (show i - 1 < s.Items.length by omega),Option.bind_some]
      rw [← decide_not]; congr 1; rw [decide_eq_decide]; omega
     ·have:i=0:=by omega
      subst this
      simp [ge]
    have htk:s.Items.take (i+1)=s.Items.take i++[s.Items[i]]:=List.take_succ_eq_append_getElem hlt
    have hall:s.Items=s.Items.take i++s.Items[i] :: s.Items.drop (i+1):=by
     rw [← List.drop_eq_getElem_cons hlt,List.take_append_drop]
    rw [List.drop_eq_getElem_cons hlt,lM,← htk]
    simp only [c1,if_true,ag hlt,Option.bind_some,Jy hN _ hf,hprev,J0 hN s s.Items[i].F (by omega) (fun x hx=>(h2 x hx).2.1),wr1 i (by omega)]
    cases sZ s.Items[i].F with
    | false=>simp
    | true=>
     by_cases hid:1≤s.Items[i].Id
     ·by_cases hnx:s.Items[i].Id < s.Next
      ·have e1:decide (s.Items[i].Id < 1)=false:=decide_eq_false (by omega)
       have e2:decide (s.Next≤s.Items[i].Id)=false:=decide_eq_false (by omega)
       rw [e1,e2,decide_eq_true hid,decide_eq_true hnx]
       cases hl:(ge (s.Items.take i) s.Items[i].Id) with
       | false=>simp
       | true=>
        have hlow:∀ y∈s.Items.take i,y.Id < s.Items[i].Id:=by
         intro y hy
         cases hg:(s.Items.take i).getLast? with
         | none=>rw [List.getLast?_eq_none_iff] at hg; rw [hg] at hy; cases hy
         | some z=>
          unfold ge at hl
          rw [hg] at hl
          have:=of_decide_eq_true hl
          have:=hup y hy z hg
          omega
        have hd:=EE (t:=s.Items.drop (i+1)) hlow
        rw [← hall] at hd
        have ih1:=ih (i+1) (by omega) (by omega) (by
         intro y hy z hz
         rw [htk] at hy hz
         rw [List.getLast?_concat] at hz
         have hz:=Option.some.inj hz
         rcases List.mem_append.1 hy with hy | hy
         ·have:=hlow y hy; rw [← hz]; omega
         ·simp at hy; rw [hy,← hz]; exact Int.le_refl _)
        simp only [Bool.not_true,Bool.false_eq_true,if_false,Option.bind_some,hd,ih1,Bool.true_and,Bool.and_self]
        cases (s.Items.take i).all fun y=>!decide (s.Items[i].F=y.F) <;> simp
      ·have e2:decide (s.Next≤s.Items[i].Id)=true:=decide_eq_true (by omega)
       rw [e2,decide_eq_false hnx]
       cases decide (s.Items[i].Id < 1) <;> simp
     ·have e1:decide (s.Items[i].Id < 1)=true:=decide_eq_true (by omega)
      rw [e1,decide_eq_false hid]
      simp
   ·have c1:decide ((i:Int) < (s.Items.length:Int))=false:=decide_eq_false (by omega)
    rw [List.drop_of_length_le (by omega)]
    simp only [c1,Bool.false_eq_true,if_false]; rfl
 have l0:=lp N 0 (by omega) (by omega) (by simp)
 rw [List.take_zero,List.drop_zero,show ((0:Nat):Int)=0 from rfl] at l0
 simp only [in0,Option.bind_some,d1,l0]
 cases (decide (1≤s.Next) && decide (s.Next≤1000000)) <;> cases decide (s.Items.length≤40) <;> simp
theorem Ic {N:Nat} (hN:1099000000000≤N) (f:av) (h:CN f):ol N f=some (sZ f):=by
 obtain ⟨h1,h2,h3⟩:=h
 unfold ol sZ
 have l1:dQ N f N 0=some (f.Fields.all sO):=lp0 hN f.Fields (by omega) (dQ N f) (fun t=>some (t.all sO)) (fun n i x t g1 g2 g3 g4 g5 g6 g7=>by
  simp only [dQ,g5,if_true,g4,Option.bind_some,DO (show 1048578≤N by omega) x (h3 x g2),g6,g7,List.all_cons]
  cases sO x <;> simp) (fun n i g1 g2=>by simp only [dQ,g2,Bool.false_eq_true,if_false]; rfl)
 have d1:decide ((5:Int) < (f.Fields.length:Int)) = !decide (f.Fields.length≤5):=by rw [← decide_not,decide_eq_decide]; omega
 simp only [qf hN _ h1,Option.bind_some,d1,l1]
 cases fm f.Kind <;> cases decide (f.Fields.length≤5) <;> simp
theorem Hh {N:Nat} (hN:1099000000000≤N) (x y:av) (hl:x.Fields.length≤4294967296):kA N x y=some (decide (x=y)):=by
 have e:bu N x.Fields y.Fields=some (decide (x.Fields=y.Fields)):=by
  unfold bu
  by_cases c:x.Fields.length=y.Fields.length
  ·rw [if_neg (by simp; omega)]
   refine (it (aS N x.Fields y.Fields) x.Fields y.Fields c (by omega) (fun a b=>some (decide (a=b))) (fun a _ b _=>rfl) (fun k i=>by simp only [aS,jK,Option.bind_some]) N 0 (by omega) (by omega)).trans ?_
   simp
  ·rw [if_pos (by simp; omega)]
   have : ¬ x.Fields=y.Fields:=fun e=>c (by rw [e])
   simp [this]
 unfold kA
 simp only [e,Option.bind_some,n9,dB]
 obtain ⟨a,b⟩:=x; obtain ⟨c,d⟩:=y
 simp only [av.mk.injEq,Bool.decide_and]
theorem C2 {α:Type} {xs:List α} {i:Nat} (h:i≤xs.length):ssl xs 0 (i:Int)=some (xs.take i):=by
 unfold ssl
 have:(0:Int)≤0∧(0:Int)≤(i:Int)∧(i:Int)≤(xs.length:Int):=by omega
 simp [h]
theorem GH {N:Nat} (hN:1099000000000≤N) (s:ae) (h:BL s):mb N s=some (pf s):=by
 obtain ⟨h1,h2⟩:=h
 unfold mb pf
 have d1:decide ((40:Int) < (s.Items.length:Int)) = !decide (s.Items.length≤40):=by rw [← decide_not,decide_eq_decide]; omega
 simp only [in1,Option.bind_some,d1]
 by_cases hn:1≤s.Next∧s.Next≤1000000
 ·have lp:∀ (n i:Nat),i≤s.Items.length→s.Items.length - i < n→cr N s n i=some (lM s.Next (s.Items.take i) (s.Items.drop i)):=by
   intro n
   induction n with
   | zero=>intro i _ h; omega
   | succ n ih=>
    intro i hi hm
    simp only [cr]
    by_cases hlt:i < s.Items.length
    ·have c1:decide ((i:Int) < (s.Items.length:Int))=true:=decide_eq_true (by omega)
     have hf:=h2 _ (List.getElem_mem hlt)
     have hnx:IntKind.i64.wrap (s.Next - 1)=s.Next - 1:=wr (by omega) (by omega)
     have hprev:(if decide (0 < (i:Int))=true then (idx s.Items (IntKind.i64.wrap ((i:Int) - 1))).bind fun x5=>some (decide (s.Items[i].Id≤x5.Id)) else some false)=some (!(ge (s.Items.take i) s.Items[i].Id)):=by
      by_cases h0:0 < i
      ·have e1:IntKind.i64.wrap ((i:Int) - 1)=((i - 1:Nat):Int):=by rw [wr (by omega) (by omega)]; omega
       unfold ge; rw [CA h0 hi,decide_eq_true (show (0:Int) < (i:Int) by omega),e1]
       simp only [if_true,ag (show i - 1 < s.Items.length by omega),Option.bind_some]
       rw [← decide_not]; congr 1; rw [decide_eq_decide]; omega
      ·have:i=0:=by omega
       subst this
       simp [ge]
     have hdup:de N (i:Int) (cr N s n) s.Items[i] (s.Items.take i) N 0=some ((((s.Items.take i).all fun y=>!decide (s.Items[i].F=y.F))) && lM s.Next (s.Items.take (i+1)) (s.Items.drop (i+1))):=by
      refine lp0 hN (s.Items.take i) (by rw [List.length_take]; omega) (de N (i:Int) (cr N s n) s.Items[i] (s.Items.take i)) (fun t=>some ((t.all fun y=>!decide (s.Items[i].F=y.F)) && lM s.Next (s.Items.take (i+1)) (s.Items.drop (i+1)))) (fun m k y t g1 g2 g3 g4 g5 g6 g7=>?_) (fun m k g1 g2=>?_)
      ·simp only [de,g5,if_true,g4,Option.bind_some,Hh hN s.Items[i].F y.F (by have:=hf.2.1; omega),g6,g7,List.all_cons]
       cases decide (s.Items[i].F=y.F) <;> simp
      ·simp only [de,g2,Bool.false_eq_true,if_false,wr1 i (by omega),ih (i+1) (by omega) (by omega)]; rfl
     have d2:decide (s.Items[i].Id≤s.Next - 1)=decide (s.Items[i].Id < s.Next):=by rw [decide_eq_decide]; omega
     have htk:s.Items.take (i+1)=s.Items.take i++[s.Items[i]]:=List.take_succ_eq_append_getElem hlt
     rw [List.drop_eq_getElem_cons hlt,lM,← htk]
     simp only [c1,if_true,ag hlt,Option.bind_some,Ic hN _ hf,in1,hnx,d2,hprev,C2 (show i≤s.Items.length by omega),hdup]
     cases sZ s.Items[i].F with
     | false=>simp
     | true=>
      cases (decide (1≤s.Items[i].Id) && decide (s.Items[i].Id < s.Next)) with
      | false=>simp
      | true=>
       cases (ge (s.Items.take i) s.Items[i].Id) <;> simp
    ·have c1:decide ((i:Int) < (s.Items.length:Int))=false:=decide_eq_false (by omega)
     rw [List.drop_of_length_le (by omega)]
     simp only [c1,Bool.false_eq_true,if_false]; rfl
  have l0:=lp N 0 (by omega) (by omega)
  rw [List.take_zero,List.drop_zero,show ((0:Nat):Int)=0 from rfl] at l0
  rw [l0,decide_eq_true hn.1,decide_eq_true hn.2]
  cases decide (s.Items.length≤40) <;> simp
 ·have:(decide (1≤s.Next) && decide (s.Next≤1000000))=false:=by
   rw [Bool.eq_false_iff]
   intro h
   simp only [Bool.and_eq_true,decide_eq_true_eq] at h
   exact hn h
  rw [this]
  cases decide (s.Items.length≤40) <;> simp
theorem Et {N:Nat} (hN:1099000000000≤N) (as:List aj) (cs:List aC) (p:ao) (hp:p.Args.length≤1048576) (hl:as.length≤4194304) (h:∀ a∈as,jp a) :
  gQ N ⟨as,cs⟩ p=some ((bc as (aI p)).1,⟨(bc as (aI p)).2,cs⟩):=by
 unfold gQ
 rw [GE hN p hp,Option.bind_some]
 have lp:∀ (n i:Nat),i≤as.length→as.length - i < n→ct N ⟨as,cs⟩ (aI p) n i =
   some (match (as.drop i).findIdx? (fun x=>decide (x=aI p)) with | some j=>((i+j:Nat):Int) | none=>(as.length:Int),⟨match (as.drop i).findIdx? (fun x=>decide (x=aI p)) with | some j=>as | none=>as++[aI p],cs⟩):=by
  intro n
  induction n with
  | zero=>intro i _ h; omega
  | succ n ih=>
   intro i hi hn
   by_cases hlt:i < as.length
   ·have c1:decide ((i:Int) < (as.length:Int))=true:=decide_eq_true (by omega)
    rw [List.drop_eq_getElem_cons hlt,List.findIdx?_cons]
    simp only [ct,c1,if_true,ag hlt,Option.bind_some,Hg hN _ _ (h _ (List.getElem_mem hlt)),wr1 i (by omega),ih (i+1) (by omega) (by omega)]
    by_cases he:as[i]=aI p
    ·simp [he]
    ·simp only [he,decide_false,Bool.false_eq_true,if_false]
     cases (as.drop (i+1)).findIdx? (fun x=>decide (x=aI p)) with
     | none=>rfl
     | some j=>simp only [Option.map_some]; rw [show i+(j+1)=i+1+j by omega]
   ·have c1:decide ((i:Int) < (as.length:Int))=false:=decide_eq_false (by omega)
    rw [List.drop_of_length_le (by omega)]
    simp only [ct,c1,Bool.false_eq_true,if_false,bQ (show as.length+[aI p].length≤4294967296 by simp; omega),Option.bind_some,List.findIdx?_nil]
    have e:IntKind.i64.wrap (((as++[aI p]).length:Int) - 1)=(as.length:Int):=by
     rw [wr (by simp only [List.length_append,List.length_cons,List.length_nil]; omega) (by simp only [List.length_append,List.length_cons,List.length_nil]; omega)]; simp only [List.length_append,List.length_cons,List.length_nil]; omega
    rw [e]
 have:=lp N 0 (by omega) (by omega)
 rw [show ((0:Nat):Int)=0 from rfl,List.drop_zero] at this
 rw [this]
 unfold bc
 cases as.findIdx? (fun x=>decide (x=aI p)) <;> simp
theorem GP {N:Nat} (hN:1099000000000≤N) (d:bh) (h:xF d.Rules):qr N d=some (cm d):=by
 obtain ⟨h1,h2,h3⟩:=h
 unfold qr cm
 refine lp' hN d.Rules (by omega) (fun n (s:List aj × List aC) i=>dS N d n s.1 s.2 i) (fun t s=>some (d7 s.1 s.2 t)) (fun s t=>s.1.length+lQ t≤1048576∧s.2.length+t.length≤1048576∧∀ a∈s.1,jp a) ([],[]) ⟨by simpa using h2,by simpa using h1,by simp⟩ (fun n s i r t g1 g2 g3 g4 g5 g6 gI ih=>?_) (fun n s i g1 g2 gI=>?_)
 ·obtain ⟨i1,i2,i3⟩:=gI
  rw [lB] at i1
  simp only [List.length_cons] at i2
  simp only [dS,g5,if_true,g4,Option.bind_some,d7]
  have key:∀ (as:List aj),as.length+r.Pats.length+lQ t≤1048576→(∀ a∈as,jp a)→eD N s.2 (i:Int) (dS N d n) r N as [] [] 0=some (d7 (be as [] [] r.Pats).1 (s.2++[⟨(be as [] [] r.Pats).2.1,(be as [] [] r.Pats).2.2⟩]) t):=by
   intro as ha hz
   refine lp' hN r.Pats (by omega) (fun m (u:List aj × List Int × List Int) k=>eD N s.2 (i:Int) (dS N d n) r m u.1 u.2.1 u.2.2 k) (fun l u=>some (d7 (be u.1 u.2.2 u.2.1 l).1 (s.2++[⟨(be u.1 u.2.2 u.2.1 l).2.1,(be u.1 u.2.2 u.2.1 l).2.2⟩]) t))
    (fun u l=>u.1.length+l.length+lQ t≤1048576∧u.2.1.length+u.2.2.length+l.length≤1048576∧∀ a∈u.1,jp a) (as,[],[]) ⟨ha,by simp; omega,hz⟩ (fun m u k p l f1 f2 f3 f4 f5 f6 fI fh=>?_) (fun m u k f1 f2 fI=>?_)
   ·obtain ⟨j1,j2,j3⟩:=fI
    simp only [List.length_cons] at j1 j2
    have hp:=h3 r g2 p f2
    have hpl:=(pm u.1 (aI p)).1
    have hall:=rM j3 (tb hp)
    simp only [eD,f5,if_true,f4,Option.bind_some,Et hN u.1 s.2 p hp (by omega) j3,f6,be]
    cases hnot:p.Not with
    | true=>
     simp only [if_true,bQ (show u.2.1.length+[(bc u.1 (aI p)).1].length≤4294967296 by simp; omega),Option.bind_some]
     exact fh ((bc u.1 (aI p)).2,u.2.1++[(bc u.1 (aI p)).1],u.2.2) ⟨by simp only; omega,by simp; omega,hall⟩
    | false=>
     simp only [Bool.false_eq_true,if_false,bQ (show u.2.2.length+[(bc u.1 (aI p)).1].length≤4294967296 by simp; omega),Option.bind_some]
     exact fh ((bc u.1 (aI p)).2,u.2.1,u.2.2++[(bc u.1 (aI p)).1]) ⟨by simp only; omega,by simp; omega,hall⟩
   ·obtain ⟨j1,j2,j3⟩:=fI
    simp only [eD,f2,Bool.false_eq_true,if_false,bQ (show s.2.length+[(⟨u.2.2,u.2.1⟩:aC)].length≤4294967296 by simp; omega),Option.bind_some,g6,be]
    exact ih (u.1,s.2++[⟨u.2.2,u.2.1⟩]) ⟨by simp only [List.length_nil] at j1 ⊢; omega,by simp; omega,j3⟩
  exact key s.1 (by omega) i3
 ·simp only [dS,g2,Bool.false_eq_true,if_false]; rfl
theorem Bq {N:Nat} (hN:1099000000000≤N) (x y:List Int) (hl:x.length≤4294967296):gw N x y=some (decide (x=y)):=by
 unfold gw
 by_cases c:x.length=y.length
 ·rw [if_neg (by simp; omega)]
  refine (it (gg N x y) x y c (by omega) (fun a b=>some (decide (a=b))) (fun a _ b _=>rfl) (fun k i=>rfl) N 0 (by omega) (by omega)).trans ?_
  simp
 ·rw [if_pos (by simp; omega)]
  have : ¬ x=y:=fun e=>c (by rw [e])
  simp [this]
theorem GU {N:Nat} (hN:1099000000000≤N) (p:ao) (hl:p.Args.length≤1048576):lR N p=some (aI p):=by
 have lp:∀ (n i:Nat) (cs:List aP) (as:List Int),i≤p.Args.length→p.Args.length - i < n→cs.length≤i→as.length≤i →
   em N p n cs as i=some ⟨p.Kind,(p.Args.length:Int),cs++iO (p.Args.drop i),as++ats i (p.Args.drop i)⟩:=by
  intro n
  induction n with
  | zero=>intro i _ _ _ h; omega
  | succ n ih=>
   intro i cs as hi hn h1 h2
   by_cases hlt:i < p.Args.length
   ·have c1:decide ((i:Int) < (p.Args.length:Int))=true:=decide_eq_true (by omega)
    rw [List.drop_eq_getElem_cons hlt]
    simp only [em,c1,if_true,ag hlt,Option.bind_some,wr1 i (by omega),iO,ats]
    by_cases hk:p.Args[i].K=2
    ·simp only [hk,decide_true,if_true,bQ (show cs.length+[p.Args[i].V].length≤4294967296 by simp; omega),bQ (show as.length+[(i:Int)].length≤4294967296 by simp; omega),Option.bind_some]
     rw [ih (i+1) _ _ (by omega) (by omega) (by simp; omega) (by simp; omega)]; simp
    ·simp only [hk,decide_false,Bool.false_eq_true,if_false]
     exact ih (i+1) _ _ (by omega) (by omega) (by omega) (by omega)
   ·have c1:decide ((i:Int) < (p.Args.length:Int))=false:=decide_eq_false (by omega)
    rw [List.drop_of_length_le (by omega)]
    simp only [em,c1,Bool.false_eq_true,if_false,iO,ats,List.append_nil]
 have:=lp N 0 [] [] (by omega) (by omega) (by simp) (by simp)
 unfold lR aI
 simpa using this
theorem H4 {N:Nat} (hN:1099000000000≤N) (x y:aj) (h:jp x):je N x y=some (decide (x=y)):=by
 unfold je
 simp only [Bq hN _ _ (show x.At.length≤4294967296 by have:=h.2; omega),FN hN _ _ (show x.Consts.length≤4294967296 by have:=h.1; omega),Option.bind_some,n9,dB]
 obtain ⟨a,b,c,d⟩:=x; obtain ⟨e,f,g,k⟩:=y
 congr 1
 rw [Bool.eq_iff_iff]
 simp only [aj.mk.injEq,Bool.and_eq_true,decide_eq_true_eq]
 constructor
 ·rintro ⟨⟨⟨h1,h2⟩,h3⟩,h4⟩; exact ⟨h1,h2,h4,h3⟩
 ·rintro ⟨h1,h2,h4,h3⟩; exact ⟨⟨⟨h1,h2⟩,h3⟩,h4⟩
theorem K3 {N:Nat} (hN:1099000000000≤N) (as:List aj) (cs:List aC) (a:aj) (hl:as.length≤4194304) (h:∀ a∈as,jp a) :
  lS N ⟨as,cs⟩ a=some ((bc as a).1,⟨(bc as a).2,cs⟩):=by
 unfold lS
 have lp:∀ (n i:Nat),i≤as.length→as.length - i < n→ej N ⟨as,cs⟩ a n i =
   some (match (as.drop i).findIdx? (fun x=>decide (x=a)) with | some j=>((i+j:Nat):Int) | none=>(as.length:Int),⟨match (as.drop i).findIdx? (fun x=>decide (x=a)) with | some j=>as | none=>as++[a],cs⟩):=by
  intro n
  induction n with
  | zero=>intro i _ h; omega
  | succ n ih=>
   intro i hi hn
   by_cases hlt:i < as.length
   ·have c1:decide ((i:Int) < (as.length:Int))=true:=decide_eq_true (by omega)
    rw [List.drop_eq_getElem_cons hlt,List.findIdx?_cons]
    simp only [ej,c1,if_true,ag hlt,Option.bind_some,H4 hN _ _ (h _ (List.getElem_mem hlt)),wr1 i (by omega),ih (i+1) (by omega) (by omega)]
    by_cases he:as[i]=a
    ·simp [he]
    ·simp only [he,decide_false,Bool.false_eq_true,if_false]
     cases (as.drop (i+1)).findIdx? (fun x=>decide (x=a)) with
     | none=>rfl
     | some j=>simp only [Option.map_some]; rw [show i+(j+1)=i+1+j by omega]
   ·have c1:decide ((i:Int) < (as.length:Int))=false:=decide_eq_false (by omega)
    rw [List.drop_of_length_le (by omega)]
    simp only [ej,c1,Bool.false_eq_true,if_false,bQ (show as.length+[a].length≤4294967296 by simp; omega),Option.bind_some,List.findIdx?_nil]
    have e:IntKind.i64.wrap (((as++[a]).length:Int) - 1)=(as.length:Int):=by
     rw [wr (by simp only [List.length_append,List.length_cons,List.length_nil]; omega) (by simp only [List.length_append,List.length_cons,List.length_nil]; omega)]; simp only [List.length_append,List.length_cons,List.length_nil]; omega
    rw [e]
 have:=lp N 0 (by omega) (by omega)
 rw [show ((0:Nat):Int)=0 from rfl,List.drop_zero] at this
 rw [this]
 unfold bc
 cases as.findIdx? (fun x=>decide (x=a)) <;> simp
theorem Kd {N:Nat} (hN:1099000000000≤N) (d:bh) (h:xF d.Rules):om N d=some (cm d):=by
 obtain ⟨h1,h2,h3⟩:=h
 unfold om cm
 refine lp' hN d.Rules (by omega) (fun n (s:List aj × List aC) i=>cY N d n s.1 s.2 i) (fun t s=>some (d7 s.1 s.2 t)) (fun s t=>s.1.length+lQ t≤1048576∧s.2.length+t.length≤1048576∧∀ a∈s.1,jp a) ([],[]) ⟨by simpa using h2,by simpa using h1,by simp⟩ (fun n s i r t g1 g2 g3 g4 g5 g6 gI ih=>?_) (fun n s i g1 g2 gI=>?_)
 ·obtain ⟨i1,i2,i3⟩:=gI
  rw [lB] at i1
  simp only [List.length_cons] at i2
  simp only [cY,g5,if_true,d7]
  have key:∀ (as:List aj),as.length+r.Pats.length+lQ t≤1048576→(∀ a∈as,jp a)→dL N d s.2 (i:Int) (cY N d n) N as [] [] 0=some (d7 (be as [] [] r.Pats).1 (s.2++[⟨(be as [] [] r.Pats).2.1,(be as [] [] r.Pats).2.2⟩]) t):=by
   intro as ha hz
   refine lp' hN r.Pats (by omega) (fun m (u:List aj × List Int × List Int) k=>dL N d s.2 (i:Int) (cY N d n) m u.1 u.2.1 u.2.2 k) (fun l u=>some (d7 (be u.1 u.2.2 u.2.1 l).1 (s.2++[⟨(be u.1 u.2.2 u.2.1 l).2.1,(be u.1 u.2.2 u.2.1 l).2.2⟩]) t))
    (fun u l=>u.1.length+l.length+lQ t≤1048576∧u.2.1.length+u.2.2.length+l.length≤1048576∧∀ a∈u.1,jp a) (as,[],[]) ⟨ha,by simp; omega,hz⟩ (fun m u k p l f1 f2 f3 f4 f5 f6 fI fh=>?_) (fun m u k f1 f2 fI=>?_)
   ·obtain ⟨j1,j2,j3⟩:=fI
    simp only [List.length_cons] at j1 j2
    have hp:=h3 r g2 p f2
    have hpl:=(pm u.1 (aI p)).1
    have hall:=rM j3 (tb hp)
    simp only [dL,g4,f5,if_true,f4,Option.bind_some,GU hN p hp,K3 hN u.1 s.2 _ (show u.1.length≤4194304 by omega) j3,f6,be]
    cases hnot:p.Not with
    | true=>
     simp only [if_true,bQ (show u.2.1.length+[(bc u.1 (aI p)).1].length≤4294967296 by simp; omega),Option.bind_some]
     exact fh ((bc u.1 (aI p)).2,u.2.1++[(bc u.1 (aI p)).1],u.2.2) ⟨by simp only; omega,by simp; omega,hall⟩
    | false=>
     simp only [Bool.false_eq_true,if_false,bQ (show u.2.2.length+[(bc u.1 (aI p)).1].length≤4294967296 by simp; omega),Option.bind_some]
     exact fh ((bc u.1 (aI p)).2,u.2.1,u.2.2++[(bc u.1 (aI p)).1]) ⟨by simp only; omega,by simp; omega,hall⟩
   ·obtain ⟨j1,j2,j3⟩:=fI
    simp only [dL,g4,f2,Bool.false_eq_true,if_false,bQ (show s.2.length+[(⟨u.2.2,u.2.1⟩:aC)].length≤4294967296 by simp; omega),Option.bind_some,g6,be]
    exact ih (u.1,s.2++[⟨u.2.2,u.2.1⟩]) ⟨by simp only [List.length_nil] at j1 ⊢; omega,by simp; omega,j3⟩
  exact key s.1 (by omega) i3
 ·simp only [cY,g2,Bool.false_eq_true,if_false]; rfl
theorem Ez (e:br) (h:fH e≤1048576):xb e:=by
 unfold fH eG fS at h
 refine ⟨by omega,⟨by omega,by omega⟩,⟨by omega,by omega⟩⟩
theorem Gf (a:bX) (h:fc a≤1048576):zU a:=by
 unfold fc at h
 have nn:∀ y∈a.Args,0≤fH y:=fun y _=>jP y
 have:=aw _ _ nn
 exact ⟨by omega,by omega,by omega,fun e he=>Ez e (by have:=fB _ _ nn e he; omega)⟩
theorem wE (a:bk) (h:eG a≤1048576):sC a:=by
 unfold eG fS at h
 exact ⟨by omega,by omega⟩
theorem FP (p:ao) (h:fd p≤1048576):zY p:=by
 unfold fd at h
 have nn:∀ y∈p.Args,0≤eG y:=fun y _=>cC y
 have:=aw _ _ nn
 exact ⟨by omega,by omega,fun a ha=>wE a (by have:=fB _ _ nn a ha; omega)⟩
theorem Ev (c:bz) (h:fX c≤1048576):w7 c:=by
 unfold fX at h
 have:=cC c.L
 have:=cC c.R
 exact ⟨wE _ (by omega),wE _ (by omega)⟩
theorem zQ:∀ (l:List ao),(iY l:Int)≤(l.map fd).sum
 | []=>by simp [iY]
 | p :: t=>by
  have h1:=zQ t
  have h2:(p.Args.length:Int)≤fd p:=by
   unfold fd
   have:=aw eG p.Args (fun y _=>cC y)
   omega
  have h3:iY (p :: t)=p.Args.length+iY t:=by simp [iY]
  rw [h3,List.map_cons,List.sum_cons]; omega
theorem wV:∀ (l:List bX),(kg l:Int)≤(l.map fc).sum
 | []=>by simp [kg]
 | p :: t=>by
  have h1:=wV t
  have h2:(p.Args.length:Int)≤fc p:=by
   unfold fc
   have:=aw fH p.Args (fun y _=>jP y)
   omega
  have h3:kg (p :: t)=p.Args.length+kg t:=by simp [kg]
  rw [h3,List.map_cons,List.sum_cons]; omega
theorem Eq (r:ac) (h:f7 r≤1048576):BS r:=by
 unfold f7 at h
 have n1:∀ y∈r.Pats,0≤fd y:=fun y _=>oG y
 have n2:∀ y∈r.Conds,0≤fX y:=fun y _=>mj y
 have n3:∀ y∈r.Acts,0≤fc y:=fun y _=>ou y
 have s1:=aw _ _ n1
 have s2:=aw _ _ n2
 have s3:=aw _ _ n3
 have s4:=zQ r.Pats
 have s5:=wV r.Acts
 refine ⟨by omega,⟨by omega,fun p hp=>FP p (by have:=fB _ _ n1 p hp; omega)⟩,⟨by omega,fun p hp=>Ev p (by have:=fB _ _ n2 p hp; omega)⟩,⟨by omega,fun p hp=>Gf p (by have:=fB _ _ n3 p hp; omega)⟩,by omega,?_⟩
 have:kg r.Acts≤1048576:=by omega
 exact this
theorem Fc (d:bh) (h:lJ d≤1048576):BZ d:=by
 unfold lJ at h
 have n1:∀ y∈d.Rules,0≤f7 y:=fun y _=>mm y
 have s1:=aw _ _ n1
 exact ⟨by omega,by omega,fun r hr=>Eq r (by have:=fB _ _ n1 r hr; omega)⟩
def sH (d:bh) (n:bB) (nx:Int):List an→List an→aJ→aJ
 | _,[],m=>m
 | done,x :: t,m=>sH d n nx (done++[x]) t (AS d n m ⟨done++[x],nx⟩ x.Id)
theorem FR (s:ae) (h:gX s≤1048576):BL s:=by
 unfold gX at h
 have n4:∀ y∈s.Items,0≤eU y:=fun y _=>mC y
 have s4:=aw _ _ n4
 refine ⟨by omega,fun x hx=>?_⟩
 have h0:=fB _ _ n4 x hx
 have h:eU x≤1048576:=by omega
 unfold eU lV at h
 have nn:∀ y∈x.F.Fields,0≤fS y:=fun y _=>jA y
 have:=aw _ _ nn
 refine ⟨by omega,by omega,fun v hv=>?_⟩
 have h5:=fB _ _ nn v hv
 have h6:fS v≤1048576:=by omega
 unfold fS at h6
 omega
theorem FW {d:bh} {n:bB} {nx:Int} (hc:n.Chains.length=d.Rules.length):∀ (rest done:List an) (m:aJ),done.length+rest.length≤40→vV d n done.length m→vV d n (done.length+rest.length) (sH d n nx done rest m)
 | [],done,m,_,h=>h
 | x :: t,done,m,hl,h=>by
  simp only [List.length_cons] at hl
  have h1:=wG (s:=⟨done++[x],nx⟩) (id:=x.Id) (by omega) (by simp; omega) hc h
  have:=FW (nx:=nx) hc t (done++[x]) _ (by simp; omega) (by simpa using h1)
  unfold sH
  simpa [Nat.add_assoc,Nat.add_comm 1] using this
theorem BT {N:Nat} (hN:1099000000000≤N) (d:bh) (s:ae) (hd:qn d=true) (hsz:BZ d) (hl:s.Items.length≤40) (hf:∀ x∈s.Items,x.F.Fields.length≤1048576):∀ (rest done:List an) (k:Nat) (m:aJ),rest.length < k→s.Items=done++rest→vV d (cm d) done.length m →
  fF N d s (cm d) k m.Alphas m.Rules (done.length:Int)=some (sH d (cm d) s.Next done rest m)∧fG N d (cm d) s k m.Alphas m.Rules (done.length:Int)=some (sH d (cm d) s.Next done rest m)
 | [],done,k,m,hk,hs,h=>by
  obtain ⟨k,rfl⟩:∃ j,k=j+1:=⟨k - 1,by simp at hk; omega⟩
  have c1:decide ((done.length:Int) < (s.Items.length:Int))=false:=decide_eq_false (by rw [hs]; simp)
  simp only [fF,fG,c1,Bool.false_eq_true,if_false,sH,and_self]
 | x :: t,done,k,m,hk,hs,h=>by
  obtain ⟨k,rfl⟩:∃ j,k=j+1:=⟨k - 1,by omega⟩
  simp only [List.length_cons] at hk
  have hsl:s.Items.length=done.length+(t.length+1):=by rw [hs]; simp
  have c1:decide ((done.length:Int) < (s.Items.length:Int))=true:=decide_eq_true (by omega)
  have e1:idx s.Items (done.length:Int)=some x:=by rw [hs]; exact dP _ _ _
  have e2:ssl s.Items 0 ((done.length+1:Nat):Int)=some (done++[x]):=by
   rw [C2 (by omega),hs]
   congr 1
   rw [show done++x :: t=(done++[x])++t by simp,List.take_left' (by simp)]
  have ok:=FG (s:=⟨done++[x],s.Next⟩) (id:=x.Id) hd hsz (by simp; omega) (fun y hy=>hf y (by rw [hs]; simp at hy ⊢; rcases hy with hy | hy <;> simp [hy])) (by omega) h
  have hc:(cm d).Chains.length=d.Rules.length:=(tx (si hd)).2.1.len
  have h1:=wG (s:=⟨done++[x],s.Next⟩) (id:=x.Id) (by omega) (by simp; omega) hc h
  have ih:=BT hN d s hd hsz hl hf t (done++[x]) k (AS d (cm d) m ⟨done++[x],s.Next⟩ x.Id) (by omega) (by rw [hs]; simp) (by simpa using h1)
  simp only [List.length_append,List.length_cons,List.length_nil,Nat.zero_add] at ih
  simp only [fF,fG,c1,if_true,e1,e2,Option.bind_some,wr1 done.length (by omega),Kv hN d (cm d) _ _ x.Id ok.ok,KU hN d (cm d) _ _ x.Id ok]
  exact ih
theorem Hx {d:bh} {m:aJ} (hd:qn d=true) (h:vV d (cm d) 40 m):rZ m∧lK m≤1125899906842624:=by
 have hnd:=si hd
 obtain ⟨⟨z1,z2⟩,z3,z4⟩:=wP hnd
 have hrl:d.Rules.length≤12:=by
  unfold qn at hd
  simp only [Bool.and_eq_true,decide_eq_true_eq] at hd
  exact hd.2.1.2
 have hr:∀ r∈d.Rules,r.Pats.length≤6∧(pos r.Pats).length≤3:=fun r hr=>by
  have ho:=qK hd r hr
  have hp:iP r.Pats=true:=by
   unfold lv at ho
   simp only [Bool.and_eq_true] at ho
   exact ho.2.2.1
  have hfc:(pos r.Pats).length=ah r.Pats:=oJ r.Pats
  unfold iP at hp
  simp only [Bool.and_eq_true,decide_eq_true_eq] at hp
  obtain ⟨⟨_,p1⟩,⟨p2,p3⟩,_⟩:=hp
  exact ⟨p1,by omega⟩
 have sle:∀ {α:Type} {f:α→Int} {B:Int} (l:List α),(∀ x∈l,f x≤B)→(l.map f).sum≤(l.length:Int)*B:=by
  intro α f B l
  induction l with
  | nil=>intro _; simp
  | cons x t ih=>
   intro h
   have h1:=ih fun y hy=>h y (by simp [hy])
   have h2:=h x (by simp)
   simp only [List.map_cons,List.sum_cons,List.length_cons]
   have:((t.length+1:Nat):Int)*B=(t.length:Int)*B+B:=by rw [Int.natCast_add,Int.add_mul]; simp
   omega
 have tok:∀ r∈d.Rules,∀ i,i < 3→∀ t,Dm (pos r.Pats) (neg r.Pats) i t→t.Ids.length≤3∧t.Hits.length≤6:=fun r hr' i hi t ht=>by
  obtain ⟨a,b,_⟩:=ht
  have:=List.length_filter_le (fun p:ao=>p.Not) r.Pats
  have hn:(neg r.Pats).length≤r.Pats.length:=this
  have:=hr r hr'
  omega
 have lev:∀ r∈d.Rules,∀ i,i < 3→∀ L,GA (pos r.Pats) (neg r.Pats) 40 i L→L.Toks.length≤400000∧(∀ t∈L.Toks,t.Ids.length≤3∧t.Hits.length≤6)∧dj L≤4000000:=fun r hr' i hi L hL=>by
  obtain ⟨a,b⟩:=hL
  have hp:100 ^ i≤10000:=by
   have:100 ^ i≤100 ^ 2:=Nat.pow_le_pow_right (by omega) (by omega)
   simpa using this
  have hll:L.Toks.length≤400000:=by
   have:40*100 ^ i≤40*10000:=Nat.mul_le_mul_left _ hp
   omega
  have ht:∀ t∈L.Toks,t.Ids.length≤3∧t.Hits.length≤6:=fun t ht=>tok r hr' i hi t (b t ht)
  refine ⟨hll,ht,?_⟩
  have:=sle (f:=iz) (B:=9) L.Toks fun t h=>by
   have:=ht t h
   unfold iz; omega
  unfold dj
  omega
 have row:∀ w∈m.Rules,rb w∧gN w≤12000003:=fun w hw=>by
  obtain ⟨i,hi,rfl⟩:=List.getElem_of_mem hw
  have hi':i < d.Rules.length:=by rw [← h.lr]; exact hi
  obtain ⟨k1,k2⟩:=h.rows i _ _ (List.getElem?_eq_getElem hi') (List.getElem?_eq_getElem hi)
  have hrm:=List.getElem_mem hi'
  have hp:=(hr _ hrm).2
  have hlv:∀ L∈m.Rules[i].Levels,L.Toks.length≤400000∧(∀ t∈L.Toks,t.Ids.length≤3∧t.Hits.length≤6)∧dj L≤4000000:=fun L hL=>by
   obtain ⟨k,hk,rfl⟩:=List.getElem_of_mem hL
   exact lev _ hrm k (by omega) _ (k2 k _ (List.getElem?_eq_getElem hk))
  refine ⟨⟨by omega,fun L hL=>⟨by have:=(hlv L hL).1; omega,fun t ht=>?_⟩⟩,?_⟩
  ·have:=(hlv L hL).2.1 t ht
   exact ⟨by omega,by omega⟩
  ·have:=sle (f:=dj) (B:=4000000) m.Rules[i].Levels fun L hL=>(hlv L hL).2.2
   unfold gN
   omega
 have e1:=sle (f:=iB) (B:=40) m.Alphas fun x hx=>by have:=h.al x hx; unfold iB; omega
 have e2:=sle (f:=gN) (B:=12000003) m.Rules fun x hx=>(row x hx).2
 have hla:=h.la
 have hlr:=h.lr
 refine ⟨⟨⟨by omega,fun x hx=>?_⟩,by omega,fun x hx=>(row x hx).1⟩,?_⟩
 ·have:=h.al x hx
  unfold pg; omega
 ·unfold lK
  omega
def xR (g:List Int→Bool) (r ys:List Int):List (List Int):=(ys.map fun y=>r++[y]).filter g
def Cu (g:List Int→Bool) (id:Int) (before fresh:List (List Int)) (A:List Int):List (List Int):=before.flatMap (fun r=>xR g r [id])++fresh.flatMap (fun r=>xR g r A)
structure Has (p:List Int→Bool) (k:Nat) (L:List (List Int)):Prop where
 nd:L.Nodup
 iff:∀ r,r∈L↔r.length=k∧p r=true
theorem mr {g:List Int→Bool} {r ys q:List Int}:q∈xR g r ys↔∃ y∈ys,q=r++[y]∧g q=true:=by
 unfold xR
 rw [List.mem_filter,List.mem_map]
 constructor
 ·rintro ⟨⟨y,hy,rfl⟩,h⟩; exact ⟨y,hy,rfl,h⟩
 ·rintro ⟨y,hy,rfl,h⟩; exact ⟨⟨y,hy,rfl⟩,h⟩
theorem Dk {g:List Int→Bool} {r ys:List Int} (h:ys.Nodup):(xR g r ys).Nodup:=by
 unfold xR
 refine List.Pairwise.filter _ (List.Pairwise.map _ (fun a b hab e=>hab ?_) h)
 simpa using e
theorem uF {g:List Int→Bool} {ys:List Int} (hy:ys.Nodup) {L:List (List Int)} (h:L.Nodup):(L.flatMap fun r=>xR g r ys).Nodup:=by
 unfold List.Nodup
 rw [List.pairwise_flatMap]
 refine ⟨fun r _=>Dk hy,h.imp fun {a b} hab q hq q' hq' e=>hab ?_⟩
 obtain ⟨y,_,rfl,_⟩:=mr.1 hq
 obtain ⟨y',_,rfl,_⟩:=mr.1 hq'
 exact (List.append_inj' e rfl).1
structure C5 (g g':List Int→Bool) (id:Int) (A:Nat→List Int) (K:Nat):Prop where
 old:∀ r,g r=true→id ∉ r∧g' r=true
 new:∀ r,g' r=true→id ∉ r→g r=true
 pre:∀ r y,g' (r++[y])=true→g' r=true
 inA:∀ r y,r.length < K→g' (r++[y])=true→y∈A r.length
 nd:∀ k,k < K→(A k).Nodup
theorem Gp {g g':List Int→Bool} {id:Int} {A:Nat→List Int} {K k:Nat} (H:C5 g g' id A K) (hk:k < K) {B F:List (List Int)} (hB:Has g k B) (hF:Has (fun r=>g' r && decide (id∈r)) k F) :
  Has (fun r=>g' r && decide (id∈r)) (k+1) (Cu g' id B F (A k)):=by
 refine ⟨?_,fun r=>?_⟩
 ·unfold Cu
  rw [List.nodup_append]
  refine ⟨uF (by simp) hB.nd,uF (H.nd k hk) hF.nd,fun a ha b hb e=>?_⟩
  subst e
  obtain ⟨x,hx,h1⟩:=List.mem_flatMap.1 ha
  obtain ⟨y,hy,h2⟩:=List.mem_flatMap.1 hb
  obtain ⟨u,_,rfl,_⟩:=mr.1 h1
  obtain ⟨v,_,e,_⟩:=mr.1 h2
  obtain ⟨rfl,-⟩:=List.append_inj' e rfl
  have h3:=((hB.iff x).1 hx).2
  have h4:=((hF.iff x).1 hy).2
  simp only [Bool.and_eq_true,decide_eq_true_eq] at h4
  exact (H.old x h3).1 h4.2
 ·unfold Cu
  rw [List.mem_append,List.mem_flatMap,List.mem_flatMap]
  simp only [Bool.and_eq_true,decide_eq_true_eq]
  constructor
  ·rintro (⟨x,hx,h⟩ | ⟨x,hx,h⟩)
   ·obtain ⟨y,hy,rfl,h1⟩:=mr.1 h
    have:=(hB.iff x).1 hx
    refine ⟨by simp [this.1],h1,?_⟩
    simp at hy; simp [hy]
   ·obtain ⟨y,hy,rfl,h1⟩:=mr.1 h
    have:=(hF.iff x).1 hx
    simp only [Bool.and_eq_true,decide_eq_true_eq] at this
    exact ⟨by simp [this.1],h1,by simp [this.2.2]⟩
  ·rintro ⟨hl,hg,hi⟩
   rcases List.eq_nil_or_concat r with rfl | ⟨q,y,rfl⟩
   ·simp at hl
   ·rw [List.concat_eq_append] at hl hg hi ⊢
    have hq:q.length=k:=by simpa using hl
    have hg':=H.pre q y hg
    by_cases hiq:id∈q
    ·right
     refine ⟨q,(hF.iff q).2 ⟨hq,by simp [hg',hiq]⟩,mr.2 ⟨y,?_,rfl,hg⟩⟩
     have:=H.inA q y (by omega) hg
     rwa [hq] at this
    ·left
     refine ⟨q,(hB.iff q).2 ⟨hq,H.new q hg' hiq⟩,mr.2 ⟨y,?_,rfl,hg⟩⟩
     simp only [List.mem_append,hiq,false_or,List.mem_singleton] at hi
     simp [hi]
theorem Em {g g':List Int→Bool} {id:Int} {A:Nat→List Int} {K k:Nat} (H:C5 g g' id A K) {L M:List (List Int)} (hL:Has g k L) (hM:Has (fun r=>g' r && decide (id∈r)) k M):Has g' k (L++M):=by
 refine ⟨?_,fun r=>?_⟩
 ·rw [List.nodup_append]
  refine ⟨hL.nd,hM.nd,fun a ha b hb e=>?_⟩
  subst e
  have h1:=((hL.iff a).1 ha).2
  have h2:=((hM.iff a).1 hb).2
  simp only [Bool.and_eq_true,decide_eq_true_eq] at h2
  exact (H.old a h1).1 h2.2
 ·rw [List.mem_append,hL.iff,hM.iff]
  simp only [Bool.and_eq_true,decide_eq_true_eq]
  constructor
  ·rintro (⟨h1,h2⟩ | ⟨h1,h2,_⟩)
   ·exact ⟨h1,(H.old r h2).2⟩
   ·exact ⟨h1,h2⟩
  ·rintro ⟨h1,h2⟩
   by_cases hi:id∈r
   ·exact .inr ⟨h1,h2,hi⟩
   ·exact .inl ⟨h1,H.new r h2 hi⟩
def uy (g:List Int→Bool) (id:Int) (A:Nat→List Int):Nat→List (List (List Int))→List (List Int)→List (List Int)→List (List (List Int))
 | _,[],_,_=>[]
 | k,L :: Ls,B,F=>(L++Cu g id B F (A k)) :: uy g id A (k+1) Ls L (Cu g id B F (A k))
theorem Ag {g g':List Int→Bool} {id:Int} {A:Nat→List Int} {K:Nat} (H:C5 g g' id A K):∀ (Ls:List (List (List Int))) (k:Nat) (B F:List (List Int)),k+Ls.length≤K→Has g k B→Has (fun r=>g' r && decide (id∈r)) k F→(∀ i L,Ls[i]?=some L→Has g (k+1+i) L) →
  ∀ i L,(uy g' id A k Ls B F)[i]?=some L→Has g' (k+1+i) L
 | [],k,B,F,_,_,_,_,i,L,h=>by simp [uy] at h
 | L :: Ls,k,B,F,hK,hB,hF,hL,i,M,h=>by
  rw [List.length_cons] at hK
  have hm:=Gp H (by omega) hB hF
  have h0:Has g (k+1) L:=by simpa using hL 0 L rfl
  cases i with
  | zero=>
   simp only [uy,List.getElem?_cons_zero,Option.some.injEq] at h
   subst h
   exact Em H h0 hm
  | succ i=>
   simp only [uy,List.getElem?_cons_succ] at h
   have:=Ag H Ls (k+1) L _ (by omega) h0 hm (fun j N hj=>by
    have:=hL (j+1) N (by simpa using hj)
    rwa [show k+1+(j+1)=k+1+1+j by omega] at this) i M h
   rwa [show k+1+(i+1)=k+1+1+i by omega]
theorem Ep {g g':List Int→Bool} {id:Int} {A:Nat→List Int} {K:Nat} (H:C5 g g' id A K) (h0:g []=true) {Ls:List (List (List Int))} (hl:Ls.length≤K) (hL:∀ i L,Ls[i]?=some L→Has g (i+1) L):∀ i L,(uy g' id A 0 Ls [[]] [])[i]?=some L→Has g' (i+1) L:=by
 intro i L h
 have:=Ag H Ls 0 [[]] [] (by omega) ⟨by simp,fun r=>by
  constructor
  ·intro h; simp at h; subst h; exact ⟨rfl,h0⟩
  ·rintro ⟨h,_⟩; simp [List.length_eq_zero_iff.1 h]⟩ ⟨by simp,fun r=>by
  constructor
  ·intro h; cases h
  ·rintro ⟨h,h1⟩; have:=List.length_eq_zero_iff.1 h; subst this; simp at h1⟩ (fun j N hj=>by
   have:=hL j N hj
   rwa [show 0+1+j=j+1 by omega]) i L h
 rwa [show i+1=0+1+i by omega]
theorem vC {xs:List an} {v:Int} (h:∀ y∈xs,y.Id≠v):aH xs v=(De,false):=by
 unfold aH
 rw [List.find?_eq_none.2 fun y hy=>by simpa using h y hy]
theorem Dt {xs:List an} {x:an} {v:Int} (h:v≠x.Id):aH (xs++[x]) v=aH xs v:=by
 unfold aH
 rw [List.find?_append,List.find?_cons_of_neg (by simpa using fun e:x.Id=v=>h e.symm),List.find?_nil,Option.or_none]
theorem Dd {xs:List an} {x:an} (h:∀ y∈xs,y.Id≠x.Id):aH (xs++[x]) x.Id=(x.F,true):=by
 unfold aH
 rw [List.find?_append,List.find?_eq_none.2 fun y hy=>by simpa using h y hy]
 simp
theorem Ct {xs:List an} {v:Int} (h:(aH xs v).2=true):∃ x∈xs,x.Id=v∧aH xs v=(x.F,true):=by
 unfold aH at h ⊢
 split at h
 ·rename_i x hx
  exact ⟨x,List.mem_of_find?_eq_some hx,by simpa using List.find?_some hx,rfl⟩
 ·cases h
theorem kP {xs:List an}:∀ (ps:List ao) (ids:List Int) (l:List aB),(cD xs ps ids l).2=true→∀ v∈ids,(aH xs v).2=true
 | [],[],l,h,v,hv=>by cases hv
 | [],u :: ids,l,h,v,hv=>by cases h
 | p :: ps,[],l,h,v,hv=>by cases hv
 | p :: ps,u :: ids,l,h,v,hv=>by
  unfold cD at h
  split at h
  ·rename_i c
   rcases List.mem_cons.1 hv with rfl | hv
   ·exact c.1
   ·exact kP ps ids _ h v hv
  ·cases h
theorem tK {xs ys:List an}:∀ (ps:List ao) (ids:List Int) (l:List aB),(∀ v∈ids,aH xs v=aH ys v)→cD xs ps ids l=cD ys ps ids l
 | [],[],l,h=>rfl
 | [],u :: ids,l,h=>rfl
 | p :: ps,[],l,h=>rfl
 | p :: ps,u :: ids,l,h=>by
  unfold cD
  rw [h u (by simp),tK ps ids _ fun v hv=>h v (by simp [hv])]
theorem wg {xs:List an} {y:Int}:∀ (ps:List ao) (row:List Int) (l:List aB),(cD xs (ps.take (row.length+1)) (row++[y]) l).2=true→(cD xs (ps.take row.length) row l).2=true
 | [],row,l,h=>by cases row <;> simp [cD] at h
 | p :: ps,[],l,h=>by simp [cD]
 | p :: ps,v :: row,l,h=>by
  simp only [List.length_cons,List.take_succ_cons,List.cons_append,cD] at h ⊢
  split at h
  ·rename_i c
   rw [if_pos c]
   exact wg ps row _ h
  ·cases h
def okR (xs:List an) (ps:List ao) (r:List Int):Bool:=(okB xs ps r).2
theorem BM {xs:List an} {ps:List ao} {x:an} {r:List Int} (h:x.Id ∉ r):okB (xs++[x]) ps r=okB xs ps r:=by
 unfold okB
 exact tK _ _ _ fun v hv=>Dt fun e=>h (e ▸ hv)
theorem FX {xs:List an} {ps:List ao} {x:an} {A:Nat→List Int} (hid:∀ y∈xs,y.Id≠x.Id)
  (hA:∀ k p,ps[k]?=some p→∀ y∈xs++[x],et (aI p) y.F=true→y.Id∈A k) (hnd:∀ k,k < ps.length→(A k).Nodup):C5 (okR xs ps) (okR (xs++[x]) ps) x.Id A ps.length:=by
 have key:∀ r,okR xs ps r=true→x.Id ∉ r:=fun r h hm=>by
  have:=kP _ _ _ h x.Id hm
  rw [vC hid] at this
  cases this
 refine ⟨fun r h=>?_,fun r h hm=>?_,fun r y h=>?_,fun r y hl h=>?_,hnd⟩
 ·have hk:=key r h
  exact ⟨hk,by unfold okR; rw [BM hk]; exact h⟩
 ·unfold okR at h ⊢
  rwa [BM hm] at h
 ·unfold okR okB at h ⊢
  rw [List.length_append,List.length_cons,List.length_nil,Nat.zero_add] at h
  exact wg ps r [] h
 ·have hf:=kP _ _ _ h y (by simp)
  unfold okR okB at h
  rw [List.length_append,List.length_cons,List.length_nil,Nat.zero_add] at h
  obtain ⟨p,hp,h2⟩:=rX ps r [] h
  obtain ⟨z,hz,rfl,e⟩:=Ct hf
  rw [e] at h2
  exact hA _ p hp z hz h2
def iy (l:List aa):List (List Int):=l.map (·.Ids)
theorem sT {xs:List an} {ps ns:List ao} (row:List Int):∀ (ids:List Int),iy (ez xs ps ns row ids)=xR (okR xs ps) row ids
 | []=>rfl
 | v :: ids=>by
  have ih:=sT (xs:=xs) (ps:=ps) (ns:=ns) row ids
  unfold ez iy xR at *
  rw [List.flatMap_cons,List.map_append,ih,List.map_cons,List.filter_cons]
  unfold mA
  by_cases h:(okB xs ps (row++[v])).2=true
  ·rw [if_pos h,if_pos (show okR xs ps (row++[v])=true from h)]; rfl
  ·rw [if_neg h,if_neg (show ¬ okR xs ps (row++[v])=true from h)]; rfl
theorem qM {xs:List an} {ps ns:List ao} (ids:List Int):∀ (B:List aa),iy (B.flatMap fun t=>ez xs ps ns t.Ids ids)=(iy B).flatMap fun r=>xR (okR xs ps) r ids
 | []=>rfl
 | t :: B=>by
  have ih:=qM (xs:=xs) (ps:=ps) (ns:=ns) ids B
  have h1:=sT (xs:=xs) (ps:=ps) (ns:=ns) t.Ids ids
  unfold iy at *
  rw [List.flatMap_cons,List.map_append,ih,h1,List.map_cons,List.flatMap_cons]
theorem Dz {xs:List an} {ps ns:List ao} {id:Int} {k:Nat} {B F:List aa} {A:List Int} {B' F':List (List Int)} (h0:k=0→B'=[[]]∧F'=[]) (hk:k≠0→B'=iy B∧F'=iy F):iy (gp xs ps ns id k B F A)=Cu (okR xs ps) id B' F' A:=by
 unfold gp Cu
 by_cases c:k=0
 ·obtain ⟨rfl,rfl⟩:=h0 c
  rw [if_pos c,sT]
  simp
 ·obtain ⟨rfl,rfl⟩:=hk c
  rw [if_neg c]
  have h1:=qM (xs:=xs) (ps:=ps) (ns:=ns) [id] B
  have h2:=qM (xs:=xs) (ps:=ps) (ns:=ns) A F
  unfold iy at *
  rw [List.map_append,h1,h2]
theorem vO {xs:List an} {ps ns:List ao} {id:Int} {A:Nat→List Int}:∀ (Ls:List ab) (k:Nat) (B F:List aa) (B' F':List (List Int)),(k=0→B'=[[]]∧F'=[])→(k≠0→B'=iy B∧F'=iy F)→(jE xs ps ns id A k Ls B F).map (fun L=>iy L.Toks)=uy (okR xs ps) id A k (Ls.map fun L=>iy L.Toks) B' F'
 | [],k,B,F,B',F',h0,hk=>rfl
 | L :: Ls,k,B,F,B',F',h0,hk=>by
  have hm:=Dz (xs:=xs) (ps:=ps) (ns:=ns) (id:=id) (A:=A k) h0 hk
  have ih:=vO (xs:=xs) (ps:=ps) (ns:=ns) (id:=id) (A:=A) Ls (k+1) L.Toks (gp xs ps ns id k B F (A k)) (iy L.Toks) (Cu (okR xs ps) id B' F' (A k)) (fun e=>by omega) (fun _=>⟨rfl,hm.symm⟩)
  unfold jE
  rw [List.map_cons,List.map_cons,ih,uy]
  congr 1
  unfold iy at *
  rw [List.map_append,hm]
def pE (xs:List an) (ps ns:List ao) (k:Nat) (r:List Int):List Int:=if k+1=ps.length then eY xs ns (okB xs ps r).1 else []
theorem t7 {xs:List an} {ps ns:List ao} {row ids:List Int}:∀ t∈ez xs ps ns row ids,t.Hits=pE xs ps ns row.length t.Ids:=by
 intro t ht
 unfold ez at ht
 obtain ⟨v,_,h⟩:=List.mem_flatMap.1 ht
 unfold mA at h
 split at h
 ·simp only [List.mem_singleton] at h
  subst h
  rfl
 ·cases h
theorem CP {xs:List an} {ps ns:List ao} {id:Int} {k:Nat} {B F:List aa} {A:List Int} (hB:∀ t∈B,t.Ids.length=k) (hF:∀ t∈F,t.Ids.length=k):∀ t∈gp xs ps ns id k B F A,t.Hits=pE xs ps ns k t.Ids:=by
 intro t ht
 unfold gp at ht
 split at ht
 ·rename_i e; subst e; exact t7 t ht
 ·rcases List.mem_append.1 ht with ht | ht
  ·obtain ⟨u,hu,h⟩:=List.mem_flatMap.1 ht
   have:=t7 t h
   rwa [hB u hu] at this
  ·obtain ⟨u,hu,h⟩:=List.mem_flatMap.1 ht
   have:=t7 t h
   rwa [hF u hu] at this
theorem xy {xs:List an} {ps ns:List ao} {id:Int} {A:Nat→List Int} (hx:xs.length≤1048576):∀ (Ls:List ab) (k:Nat) (B F:List aa),(∀ t∈B,t.Ids.length=k)→(∀ t∈F,t.Ids.length=k)→(∀ i L,Ls[i]?=some L→∀ t∈L.Toks,t.Ids.length=k+i+1∧t.Hits=pE xs ps ns (k+i) t.Ids) →
  ∀ i L,(jE xs ps ns id A k Ls B F)[i]?=some L→∀ t∈L.Toks,t.Hits=pE xs ps ns (k+i) t.Ids
 | [],k,B,F,hB,hF,hL,i,L,h=>by simp [jE] at h
 | M :: Ls,k,B,F,hB,hF,hL,i,L,h=>by
  have hm:=CP (xs:=xs) (ps:=ps) (ns:=ns) (id:=id) (A:=A k) hB hF
  have hml:=A3 (xs:=xs) (ps:=ps) (ns:=ns) (id:=id) (A:=A k) hx hB hF
  have hM:=hL 0 M rfl
  unfold jE at h
  cases i with
  | zero=>
   simp only [List.getElem?_cons_zero,Option.some.injEq] at h
   subst h
   intro t ht
   rcases List.mem_append.1 ht with ht | ht
   ·exact (hM t ht).2
   ·exact hm t ht
  | succ i=>
   have:=xy (ps:=ps) (ns:=ns) (id:=id) (A:=A) hx Ls (k+1) M.Toks _ (fun t ht=>(hM t ht).1) (fun t ht=>(hml t ht).1) (fun j N hj=>by
    have:=hL (j+1) N (by simpa using hj)
    rwa [show k+(j+1)=k+1+j by omega] at this) i L (by simpa using h)
   rwa [show k+1+i=k+(i+1) by omega] at this
theorem xz {xs:List an} {x:an} {l:List aB} (hx:xs.length≤1048576):∀ (ns:List ao),jG x.F l 1 ns (eY xs ns l)=eY (xs++[x]) ns l
 | []=>rfl
 | p :: ns=>by
  have ih:=xz (x:=x) (l:=l) hx ns
  have h1:=Bt p l xs
  unfold eY at ih ⊢
  rw [List.map_cons,List.map_cons,jG,ih]
  congr 1
  unfold we
  rw [List.countP_append,List.countP_singleton]
  unfold we at h1
  split
  ·rw [wr (by omega) (by omega)]; omega
  ·simp
def Hl (xs:List an) (r:ac) (w:aF):Prop:=∀ k L,w.Levels[k]?=some L→Has (okR xs (pos r.Pats)) (k+1) (iy L.Toks)∧∀ t∈L.Toks,t.Hits=pE xs (pos r.Pats) (neg r.Pats) k t.Ids
theorem Has.len {p:List Int→Bool} {k:Nat} {l:List aa} (h:Has p k (iy l)):∀ t∈l,t.Ids.length=k∧p t.Ids=true:=fun t ht=>(h.iff t.Ids).1 (List.mem_map.2 ⟨t,ht,rfl⟩)
theorem Dw {xs:List an} {x:an} {r:ac} {w:aF} (hx:xs.length≤1048576) (hid:∀ y∈xs,y.Id≠x.Id) (hl:w.Levels.length=(pos r.Pats).length) (h:Hl xs r w) :
  ∀ k L,(fE (xs++[x]) (pos r.Pats) (neg r.Pats) x.F 1 w).Levels[k]?=some L→Has (okR xs (pos r.Pats)) (k+1) (iy L.Toks)∧∀ t∈L.Toks,t.Hits=pE (xs++[x]) (pos r.Pats) (neg r.Pats) k t.Ids:=by
 have key:∀ q,okR xs (pos r.Pats) q=true→okB (xs++[x]) (pos r.Pats) q=okB xs (pos r.Pats) q:=fun q hq=>BM fun hm=>by
  have:=kP _ _ _ hq x.Id hm
  rw [vC hid] at this
  cases this
 have far:∀ k L,w.Levels[k]?=some L→k≠w.Levels.length - 1→Has (okR xs (pos r.Pats)) (k+1) (iy L.Toks)∧∀ t∈L.Toks,t.Hits=pE (xs++[x]) (pos r.Pats) (neg r.Pats) k t.Ids:=fun k L hL hk=>by
  obtain ⟨h1,h2⟩:=h k L hL
  refine ⟨h1,fun t ht=>?_⟩
  have:=(List.getElem?_eq_some_iff.1 hL).1
  rw [h2 t ht]
  unfold pE
  rw [if_neg (by omega),if_neg (by omega)]
 intro k L hL
 unfold fE at hL
 split at hL
 ·rename_i M hM
  simp only at hL
  rw [List.getElem?_set] at hL
  split at hL
  ·rename_i e
   split at hL
   ·simp only [Option.some.injEq] at hL
    subst hL
    subst e
    obtain ⟨h1,h2⟩:=h _ M hM
    have hlt:=(List.getElem?_eq_some_iff.1 hM).1
    refine ⟨?_,fun t ht=>?_⟩
    ·unfold iy at h1 ⊢
     rw [uh]; exact h1
    ·simp only at ht
     unfold iD at ht
     obtain ⟨u,hu,rfl⟩:=List.mem_map.1 ht
     have hu2:=h2 u hu
     have hok:=(Has.len h1 u hu).2
     have hk:=key _ hok
     have hc:(okB (xs++[x]) (pos r.Pats) u.Ids).2=true:=by rw [hk]; exact hok
     rw [if_pos hc]
     simp only
     rw [hu2,hk]
     unfold pE
     rw [if_pos (by omega),if_pos (by omega),xz hx,hk]
   ·cases hL
  ·rename_i e
   exact far k L hL fun e'=>e e'.symm
 ·rename_i hn
  have:=List.getElem?_eq_none_iff.1 hn
  have:=(List.getElem?_eq_some_iff.1 hL).1
  omega
theorem H1 {xs:List an} {x:an} {as:List aQ} {r:ac} {c:aC} {w:aF} (hx:xs.length+1≤1048576) (hid:∀ y∈xs,y.Id≠x.Id) (hl:w.Levels.length=(pos r.Pats).length)
  (hA:∀ k p,(pos r.Pats)[k]?=some p→ta as c k=((xs++[x]).filter fun y=>et (aI p) y.F).map (·.Id)) (hnd:((xs++[x]).map (·.Id)).Nodup) (h:Hl xs r w):Hl (xs++[x]) r (oD (xs++[x]) as x.F x.Id r c w):=by
 have ht:=Dw (x:=x) (by omega) hid hl h
 have hlen:(fE (xs++[x]) (pos r.Pats) (neg r.Pats) x.F 1 w).Levels.length=w.Levels.length:=by unfold fE; split <;> simp
 have G:=FX (xs:=xs) (ps:=pos r.Pats) (x:=x) (A:=ta as c) hid
  (fun k p hp y hy hpy=>by rw [hA k p hp]; exact List.mem_map.2 ⟨y,List.mem_filter.2 ⟨hy,hpy⟩,rfl⟩)
  (fun k hk=>by
   rw [hA k _ (List.getElem?_eq_getElem hk)]
   exact List.Nodup.sublist (List.Sublist.map _ (List.filter_sublist)) hnd)
 have h0:okR xs (pos r.Pats) []=true:=by unfold okR okB; simp [cD]
 have e:=vO (xs:=xs++[x]) (ps:=pos r.Pats) (ns:=neg r.Pats) (id:=x.Id) (A:=ta as c) (fE (xs++[x]) (pos r.Pats) (neg r.Pats) x.F 1 w).Levels 0 [] [] [[]] [] (fun _=>⟨rfl,rfl⟩) (fun e=>absurd rfl e)
 have hg:=Ep G h0 (Ls:=(fE (xs++[x]) (pos r.Pats) (neg r.Pats) x.F 1 w).Levels.map fun L=>iy L.Toks) (by rw [List.length_map,hlen,hl]; exact Nat.le_refl _) (fun i L hL=>by
  rw [List.getElem?_map,Option.map_eq_some_iff] at hL
  obtain ⟨M,hM,rfl⟩:=hL
  exact (ht i M hM).1)
 intro k L hL
 refine ⟨hg k _ ?_,?_⟩
 ·rw [← e,List.getElem?_map]
  unfold oD at hL
  rw [show (jE (xs++[x]) (pos r.Pats) (neg r.Pats) x.Id (ta as c) 0 (fE (xs++[x]) (pos r.Pats) (neg r.Pats) x.F 1 w).Levels [] [])[k]?=some L from hL]
  rfl
 ·have:=xy (xs:=xs++[x]) (ps:=pos r.Pats) (ns:=neg r.Pats) (id:=x.Id) (A:=ta as c) (by simp; omega) (fE (xs++[x]) (pos r.Pats) (neg r.Pats) x.F 1 w).Levels 0 [] [] (by simp) (by simp) (fun i M hM t hm=>by
   obtain ⟨h1,h2⟩:=ht i M hM
   rw [Nat.zero_add]
   exact ⟨(Has.len h1 t hm).1,h2 t hm⟩) k L hL
  rwa [Nat.zero_add] at this
def tl (n:bB) (xs:List an):List aQ:=n.Alphas.map fun a=>⟨(xs.filter fun x=>et a x.F).map (·.Id)⟩
theorem zO {x:an} {xs:List an}:∀ (as:List aj),bS x.F x.Id as (as.map fun a=>⟨(xs.filter fun x=>et a x.F).map (·.Id)⟩)=as.map fun a=>⟨((xs++[x]).filter fun x=>et a x.F).map (·.Id)⟩
 | []=>rfl
 | a :: as=>by
  rw [List.map_cons,List.map_cons,bS,zO as]
  congr 1
  rw [List.filter_append,List.filter_cons]
  cases et a x.F <;> simp
structure ES (d:bh) (n:bB) (xs:List an) (m:aJ):Prop where
 al:m.Alphas=tl n xs
 rows:∀ (i:Nat) (r:ac) (w:aF),d.Rules[i]?=some r→m.Rules[i]?=some w→Hl xs r w
theorem IU {d:bh} {n:bB} {m:aJ} {xs:List an} {x:an} {nx:Int} {j:Nat} (hx:xs.length+1≤1048576) (hnd:((xs++[x]).map (·.Id)).Nodup) (hats:Ats n.Alphas n.Chains d.Rules) (hi:vV d n j m) (h:ES d n xs m):ES d n (xs++[x]) (AS d n m ⟨xs++[x],nx⟩ x.Id):=by
 have hid:∀ y∈xs,y.Id≠x.Id:=fun y hy e=>by
  rw [List.map_append,List.nodup_append] at hnd
  exact hnd.2.2 y.Id (List.mem_map.2 ⟨y,hy,rfl⟩) x.Id (by simp) e
 have hf:=Dd hid
 have ha:bS x.F x.Id n.Alphas m.Alphas=tl n (xs++[x]):=by rw [h.al]; exact zO n.Alphas
 have h2:=t6 (g:=oD (xs++[x]) (bS x.F x.Id n.Alphas m.Alphas) x.F x.Id) d.Rules n.Chains m.Rules hi.lr.symm (by rw [hats.len,hi.lr])
 refine ⟨?_,fun i r v e1 e2=>?_⟩
 ·unfold AS
  simp only [hf]
  exact ha
 ·unfold AS at e2
  simp only [hf] at e2
  obtain ⟨r',c,w,a1,a2,a3,rfl⟩:=h2.2 i v e2
  rw [e1] at a1
  cases a1
  refine H1 hx hid (hi.rows i r w e1 a3).1 (fun k p hp=>?_) hnd (h.rows i r w e1 a3)
  obtain ⟨hi1,hr⟩:=List.getElem?_eq_some_iff.1 e1
  obtain ⟨hi2,hc⟩:=List.getElem?_eq_some_iff.1 a2
  have hat:=(hats.get i hi2 hi1).1
  rw [hc,hr] at hat
  obtain ⟨hkp,hpp⟩:=List.getElem?_eq_some_iff.1 hp
  have hkc:k < c.Pos.length:=by rw [hat.len]; exact hkp
  have e3:=hat.get k hkc hkp
  obtain ⟨a0,_,e4⟩:=a7 e3
  have e5:idx (bS x.F x.Id n.Alphas m.Alphas) c.Pos[k]=some ⟨((xs++[x]).filter fun y=>et (aI p) y.F).map (·.Id)⟩:=by
   rw [ha]
   unfold idx tl
   rw [if_pos a0,List.getElem?_map,e4,← hpp]
   rfl
  exact (ut (ag hkc) e5).symm
def cmp (a b:Int):Int:=if a < b then -1 else if b < a then 1 else 0
theorem IK (N:Nat) (a b:Int):fD N a b=some (cmp a b):=by
 unfold fD gO cmp
 by_cases h1:a < b
 ·simp [h1]
 ·by_cases h2:b < a <;> simp [h1,h2]
theorem Ki {N:Nat} (hN:1048578≤N) (a b:Int):kC N [a,b]=some (if a=0 then b else a):=by
 obtain ⟨n,rfl⟩:∃ n,N=n+3:=⟨N - 3,by omega⟩
 unfold kC
 have w1:IntKind.i64.wrap ((0:Int)+1)=1:=by decide
 have w2:IntKind.i64.wrap ((1:Int)+1)=2:=by decide
 have i0:idx [a,b] 0=some a:=rfl
 have i1:idx [a,b] 1=some b:=rfl
 have l2:(([a,b]:List Int).length:Int)=2:=rfl
 simp only [fq,w1,w2,i0,i1,l2,Option.bind_some]
 by_cases ha:a=0
 ·by_cases hb:b=0 <;> simp [ha,hb]
 ·simp [ha]
def kH:List Int→List Int→Int
 | [],[]=>0
 | [],_ :: _=>-1
 | _ :: _,[]=>1
 | a :: x,b :: y=>if a=b then kH x y else if a < b then -1 else 1
theorem vu:∀ x y,kH y x = - kH x y
 | [],[]=>rfl
 | [],_ :: _=>rfl
 | _ :: _,[]=>rfl
 | a :: x,b :: y=>by
  unfold kH
  by_cases h:a=b
  ·rw [if_pos h,if_pos h.symm,vu x y]
  ·rw [if_neg h,if_neg fun e=>h e.symm]
   by_cases h':a < b
   ·rw [if_pos h',if_neg (by omega)]; rfl
   ·rw [if_neg h',if_pos (by omega)]
theorem ny:∀ x y,kH x y=0↔x=y
 | [],[]=>by simp [kH]
 | [],_ :: _=>by simp [kH]
 | _ :: _,[]=>by simp [kH]
 | a :: x,b :: y=>by
  unfold kH
  by_cases h:a=b
  ·rw [if_pos h,ny x y,h]; simp
  ·rw [if_neg h]
   by_cases h':a < b
   ·rw [if_pos h']; simp [h]
   ·rw [if_neg h']; simp [h]
theorem Bh:∀ x y z,kH x y < 0→kH y z < 0→kH x z < 0
 | [],[],z,h,_=>absurd h (by simp [kH])
 | [],_ :: _,[],_,h=>absurd h (by simp [kH])
 | [],_ :: _,_ :: _,_,_=>by simp [kH]
 | _ :: _,[],_,h,_=>absurd h (by simp [kH])
 | _ :: _,_ :: _,[],_,h=>absurd h (by simp [kH])
 | a :: x,b :: y,d :: z,h1,h2=>by
  unfold kH at h1 h2 ⊢
  by_cases e1:a=b
  ·rw [if_pos e1] at h1
   subst e1
   by_cases e2:a=d
   ·rw [if_pos e2] at h2 ⊢
    exact Bh x y z h1 h2
   ·rw [if_neg e2] at h2 ⊢; exact h2
  ·rw [if_neg e1] at h1
   have:a < b:=by
    by_cases h:a < b
    ·exact h
    ·rw [if_neg h] at h1; simp at h1
   by_cases e2:b=d
   ·subst e2
    rw [if_neg e1,if_pos this]; decide
   ·rw [if_neg e2] at h2
    have h3:b < d:=by
     by_cases h:b < d
     ·exact h
     ·rw [if_neg h] at h2; simp at h2
    rw [if_neg (by omega),if_pos (by omega)]; decide
def gA {α β:Type} (p:α→β→Bool):List α→List β→Bool
 | [],[]=>true
 | a :: l,b :: m=>p a b && gA p l m
 | _,_=>false
theorem nN {α β:Type} {p:α→β→Bool}:∀ {l:List α} {m:List β},gA p l m=true→l.length=m.length
 | [],[],_=>rfl
 | a :: l,b :: m,h=>by
  simp only [gA,Bool.and_eq_true] at h
  simp [nN h.2]
 | [],_ :: _,h=>by cases h
 | _ :: _,[],h=>by cases h
theorem lp2 {α β γ:Type} (f:Nat→Int→Option γ) (a:List α) (b:List β) (hl:a.length=b.length) (hm:a.length≤4294967296) (p:α→β→Bool) (K Z:Option γ)
  (hs:∀ n (i:Nat) (x:α) (y:β),idx a (i:Int)=some x→idx b (i:Int)=some y→x∈a→y∈b→decide ((i:Int) < (a.length:Int))=true→IntKind.i64.wrap ((i:Int)+1)=((i+1:Nat):Int)→f (n+1) i=if p x y=true then f n ((i+1:Nat):Int) else Z)
  (he:∀ n (i:Nat),decide ((i:Int) < (a.length:Int))=false→i=a.length→f (n+1) i=K) :
  ∀ (n i:Nat),i≤a.length→a.length - i < n→f n i=if gA p (a.drop i) (b.drop i)=true then K else Z:=by
 intro n
 induction n with
 | zero=>intro i _ h; omega
 | succ n ih=>
  intro i hi hn
  by_cases hlt:i < a.length
  ·have hlt':i < b.length:=by omega
   rw [hs n i _ _ (ag hlt) (ag hlt') (List.getElem_mem hlt) (List.getElem_mem hlt') (decide_eq_true (by omega)) (wr1 i (by omega)),ih (i+1) (by omega) (by omega),List.drop_eq_getElem_cons hlt,List.drop_eq_getElem_cons hlt',gA]
   cases p a[i] b[i] <;> simp
  ·rw [he n i (decide_eq_false (by omega)) (by omega),List.drop_of_length_le (by omega),List.drop_of_length_le (by omega)]
   simp [gA]
theorem DQ {N:Nat} (x y:List Int) (hm:x.length≤1099000000000):∀ n i:Nat,i≤x.length→i≤y.length→x.length - i < n→bG N x y n i=some (kH (x.drop i) (y.drop i)):=by
 intro n
 induction n with
 | zero=>intro i _ _ h; omega
 | succ n ih=>
  intro i hi hj hn
  simp only [bG]
  by_cases hlt:i < x.length
  ·have c1:decide ((i:Int) < (x.length:Int))=true:=decide_eq_true (by omega)
   rw [List.drop_eq_getElem_cons hlt]
   by_cases hlt':i < y.length
   ·have c2:decide ((y.length:Int)≤(i:Int))=false:=decide_eq_false (by omega)
    rw [List.drop_eq_getElem_cons hlt',kH]
    simp only [c1,c2,if_true,Bool.false_eq_true,if_false,ag hlt,ag hlt',Option.bind_some,IK,wr1 i (by omega)]
    by_cases he:x[i]=y[i]
    ·have e0:cmp y[i] y[i]=0:=by unfold cmp; simp
     simp only [e0,he,decide_true,Bool.not_true,Bool.false_eq_true,if_false,if_true]
     exact ih (i+1) (by omega) (by omega) (by omega)
    ·have e0:cmp x[i] y[i]≠0:=by unfold cmp; split <;> (try split) <;> omega
     simp only [e0,he,decide_false,Bool.not_false,if_true,if_false]
     unfold cmp
     split
     ·rfl
     ·rw [if_pos (by omega)]
   ·have c2:decide ((y.length:Int)≤(i:Int))=true:=decide_eq_true (by omega)
    rw [List.drop_of_length_le (show y.length≤i by omega)]
    simp only [c1,c2,if_true,ag hlt,Option.bind_some,kH]
  ·have c1:decide ((i:Int) < (x.length:Int))=false:=decide_eq_false (by omega)
   simp only [c1,Bool.false_eq_true,if_false]
   rw [List.drop_of_length_le (show x.length≤i by omega)]
   by_cases hlt':i < y.length
   ·have c2:decide ((x.length:Int) < (y.length:Int))=true:=decide_eq_true (by omega)
    rw [List.drop_eq_getElem_cons hlt',c2]; rfl
   ·have c2:decide ((x.length:Int) < (y.length:Int))=false:=decide_eq_false (by omega)
    rw [List.drop_of_length_le (show y.length≤i by omega),c2]; rfl
def e9 (a b:aa):Int:=if kH a.Ids b.Ids=0 then kH a.Hits b.Hits else kH a.Ids b.Ids
theorem pr {a b:aa}:e9 a b=0↔a=b:=by
 unfold e9
 by_cases h:kH a.Ids b.Ids=0
 ·rw [if_pos h,ny]
  have:=(ny _ _).1 h
  constructor
  ·intro e; cases a; cases b; simp_all
  ·rintro rfl; rfl
 ·rw [if_neg h]
  exact ⟨fun e=>absurd e h,fun e=>by rw [e] at h; exact absurd ((ny _ _).2 rfl) h⟩
theorem DD (a b:aa):e9 b a = - e9 a b:=by
 unfold e9
 rw [vu a.Ids b.Ids,vu a.Hits b.Hits]
 by_cases h:kH a.Ids b.Ids=0
 ·rw [if_pos h,if_pos (by omega)]
 ·rw [if_neg h,if_neg (by omega)]
theorem pq:wI e9:=by
 refine ⟨fun x=>?_,fun x y z h1 h2=>?_,fun x y h1 h2=>?_⟩
 ·rw [pr.2 rfl]; decide
 ·unfold e9 at h1 h2 ⊢
  by_cases e1:kH x.Ids y.Ids=0
  ·rw [if_pos e1] at h1
   have q1:=(ny _ _).1 e1
   rw [q1]
   by_cases e2:kH y.Ids z.Ids=0
   ·rw [if_pos e2] at h2 ⊢
    exact Bh _ _ _ h1 h2
   ·rw [if_neg e2] at h2 ⊢; exact h2
  ·rw [if_neg e1] at h1
   by_cases e2:kH y.Ids z.Ids=0
   ·rw [← (ny _ _).1 e2,if_neg e1]; exact h1
   ·rw [if_neg e2] at h2
    have:=Bh _ _ _ h1 h2
    rw [if_neg (by omega)]; exact this
 ·rw [DD x y] at h2
  exact pr.1 (by omega)
def Ae (t:aa):Prop:=t.Ids.length≤4294967296∧t.Hits.length≤4294967296
theorem pJ {N:Nat} (hN:1099000000000≤N) (a b:aa) (ha:Ae a):bR N a b=some (e9 a b):=by
 unfold bR dC e9
 have h1:=DQ (N:=N) a.Ids b.Ids (by have:=ha.1; omega) N 0 (by omega) (by omega) (by have:=ha.1; omega)
 have h2:=DQ (N:=N) a.Hits b.Hits (by have:=ha.2; omega) N 0 (by omega) (by omega) (by have:=ha.2; omega)
 simp only [List.drop_zero] at h1 h2
 rw [show ((0:Nat):Int)=0 from rfl] at h1 h2
 simp only [h1,h2,Option.bind_some,Ki (show 1048578≤N by omega)]
theorem DR {α:Type} [DecidableEq α]:∀ (l m:List α),l.length=m.length→gA (fun x y=>decide (x=y)) l m=decide (l=m)
 | [],[],_=>by simp [gA]
 | a :: l,b :: m,h=>by
  simp only [gA]
  rw [DR l m (by simpa using h)]
  by_cases e:a=b <;> simp [e]
 | [],_ :: _,h=>by simp at h
 | _ :: _,[],h=>by simp at h
def mL (a b:ab):Bool:=decide (a.Toks.Perm b.Toks)
def iS (v w:aF):Bool:=gA mL v.Levels w.Levels
def uB (m x:aJ):Bool:=gA (fun a b=>decide (a.L=b.L)) m.Alphas x.Alphas && gA iS m.Rules x.Rules
theorem CJ {N:Nat} (hN:1099000000000≤N) (a b:ab) (hl:a.Toks.length≤4294967296) (ha:∀ t∈a.Toks,Ae t) (hb:∀ t∈b.Toks,Ae t):fL N a b=some (mL a b):=by
 unfold fL mL
 by_cases c:a.Toks.length=b.Toks.length
 ·have c1:decide ((a.Toks.length:Int)=(b.Toks.length:Int))=true:=decide_eq_true (by omega)
  have e1:Ck a.Toks (bR N)=some (srt e9 a.Toks):=E9 hl pq fun x hx y hy=>pJ hN x y (ha x hx)
  have e2:Ck b.Toks (bR N)=some (srt e9 b.Toks):=E9 (by omega) pq fun x hx y hy=>pJ hN x y (hb x hx)
  have p1:=jd (c:=e9) a.Toks
  have p2:=jd (c:=e9) b.Toks
  have hll:(srt e9 a.Toks).length=(srt e9 b.Toks).length:=by rw [p1.length_eq,p2.length_eq]; exact c
  have hm:(srt e9 a.Toks).length≤4294967296:=by rw [p1.length_eq]; exact hl
  have e3:=lp2 (ay N (srt e9 a.Toks) (srt e9 b.Toks) (jQ N)) (srt e9 a.Toks) (srt e9 b.Toks) hll hm (fun x y=>decide (x=y)) (some true) (some false)
   (fun n i x y g1 g2 g3 g4 g5 g6=>by
    have hx:Ae x:=ha x (p1.mem_iff.1 g3)
    simp only [ay,g5,if_true,g1,g2,Option.bind_some,jQ,pJ hN x y hx,g6]
    by_cases e:x=y
    ·subst e
     have:e9 x x=0:=pr.2 rfl
     simp [this]
    ·have:e9 x y≠0:=fun h=>e (pr.1 h)
     simp [this,e])
   (fun n i g1 g2=>by simp only [ay,g1,Bool.false_eq_true,if_false]) N 0 (by omega) (by omega)
  simp only [List.drop_zero,DR _ _ hll] at e3
  have c2:decide (((srt e9 a.Toks).length:Int)=((srt e9 b.Toks).length:Int))=true:=decide_eq_true (by omega)
  simp only [c1,Bool.not_true,Bool.false_eq_true,if_false,cS,km hl,km (show b.Toks.length≤4294967296 by omega),Option.bind_some,df,e1,e2,bq,c2]
  rw [show ((0:Nat):Int)=0 from rfl] at e3
  rw [e3]
  by_cases hp:a.Toks.Perm b.Toks
  ·simp [hp,(Ee pq).2 hp]
  ·have hne : ¬ srt e9 a.Toks=srt e9 b.Toks:=fun e=>hp ((Ee pq).1 e)
   simp [hp,hne]
 ·have c1:decide ((a.Toks.length:Int)=(b.Toks.length:Int))=false:=decide_eq_false (by omega)
  simp only [c1,Bool.not_false,if_true]
  rw [decide_eq_false fun h=>c h.length_eq]
def JU (a:ab):Prop:=a.Toks.length≤4294967296∧∀ t∈a.Toks,Ae t
def Gu (w:aF):Prop:=w.Levels.length≤4294967296∧∀ a∈w.Levels,JU a
def EW (m:aJ):Prop:=(m.Alphas.length≤4294967296∧∀ a∈m.Alphas,a.L.length≤4294967296)∧m.Rules.length≤4294967296∧∀ w∈m.Rules,Gu w
theorem Ek {N:Nat} (hN:1099000000000≤N) (v w:aF) (hv:Gu v) (hw:Gu w):ef N v w=some (iS v w):=by
 unfold ef aW iS
 by_cases c:v.Levels.length=w.Levels.length
 ·have e3:=lp2 (ak N v.Levels w.Levels (fL N)) v.Levels w.Levels c hv.1 mL (some true) (some false)
   (fun n i x y g1 g2 g3 g4 g5 g6=>by
    simp only [ak,g5,if_true,g1,g2,Option.bind_some,CJ hN x y (hv.2 x g3).1 (hv.2 x g3).2 (hw.2 y g4).2,g6]
    cases mL x y <;> simp)
   (fun n i g1 g2=>by simp only [ak,g1,Bool.false_eq_true,if_false]) N 0 (by omega) (by have:=hv.1; omega)
  simp only [List.drop_zero] at e3
  rw [show ((0:Nat):Int)=0 from rfl] at e3
  have c1:decide ((v.Levels.length:Int)=(w.Levels.length:Int))=true:=decide_eq_true (by omega)
  simp only [c1,Bool.not_true,Bool.false_eq_true,if_false,e3]
  cases gA mL v.Levels w.Levels <;> rfl
 ·have c1:decide ((v.Levels.length:Int)=(w.Levels.length:Int))=false:=decide_eq_false (by omega)
  simp only [c1,Bool.not_false,if_true,Option.bind_some]
  cases h:gA mL v.Levels w.Levels with
  | false=>rfl
  | true=>exact absurd (nN h) c
theorem Eo {N:Nat} (hN:1099000000000≤N) (m x:aJ) (hm:EW m) (hx:EW x):mF N m x=some (uB m x):=by
 unfold mF uB
 have a1:aY N m.Alphas x.Alphas (eX N)=some (gA (fun a b=>decide (a.L=b.L)) m.Alphas x.Alphas):=by
  unfold aY
  by_cases c:m.Alphas.length=x.Alphas.length
  ·have e3:=lp2 (az N m.Alphas x.Alphas (eX N)) m.Alphas x.Alphas c hm.1.1 (fun a b=>decide (a.L=b.L)) (some true) (some false)
    (fun n i u v g1 g2 g3 g4 g5 g6=>by
     simp only [az,g5,if_true,g1,g2,Option.bind_some,eX,G9 hN u.L v.L (hm.1.2 u g3),g6]
     by_cases e:u.L=v.L <;> simp [e])
    (fun n i g1 g2=>by simp only [az,g1,Bool.false_eq_true,if_false]) N 0 (by omega) (by have:=hm.1.1; omega)
   simp only [List.drop_zero] at e3
   rw [show ((0:Nat):Int)=0 from rfl] at e3
   have c1:decide ((m.Alphas.length:Int)=(x.Alphas.length:Int))=true:=decide_eq_true (by omega)
   simp only [c1,Bool.not_true,Bool.false_eq_true,if_false,e3]
   cases gA (fun a b=>decide (a.L=b.L)) m.Alphas x.Alphas <;> rfl
  ·have c1:decide ((m.Alphas.length:Int)=(x.Alphas.length:Int))=false:=decide_eq_false (by omega)
   simp only [c1,Bool.not_false,if_true]
   cases h:gA (fun a b=>decide (a.L=b.L)) m.Alphas x.Alphas with
   | false=>rfl
   | true=>exact absurd (nN h) c
 have a2:aX N m.Rules x.Rules (ef N)=some (gA iS m.Rules x.Rules):=by
  unfold aX
  by_cases c:m.Rules.length=x.Rules.length
  ·have e3:=lp2 (aA N m.Rules x.Rules (ef N)) m.Rules x.Rules c hm.2.1 iS (some true) (some false)
    (fun n i u v g1 g2 g3 g4 g5 g6=>by
     simp only [aA,g5,if_true,g1,g2,Option.bind_some,Ek hN u v (hm.2.2 u g3) (hx.2.2 v g4),g6]
     cases iS u v <;> simp)
    (fun n i g1 g2=>by simp only [aA,g1,Bool.false_eq_true,if_false]) N 0 (by omega) (by have:=hm.2.1; omega)
   simp only [List.drop_zero] at e3
   rw [show ((0:Nat):Int)=0 from rfl] at e3
   have c1:decide ((m.Rules.length:Int)=(x.Rules.length:Int))=true:=decide_eq_true (by omega)
   simp only [c1,Bool.not_true,Bool.false_eq_true,if_false,e3]
   cases gA iS m.Rules x.Rules <;> rfl
  ·have c1:decide ((m.Rules.length:Int)=(x.Rules.length:Int))=false:=decide_eq_false (by omega)
   simp only [c1,Bool.not_false,if_true]
   cases h:gA iS m.Rules x.Rules with
   | false=>rfl
   | true=>exact absurd (nN h) c
 simp only [a1,a2,Option.bind_some]
 cases gA (fun a b=>decide (a.L=b.L)) m.Alphas x.Alphas <;> simp
def wZ (k h:Int) (t:aa):Bool:=decide ((t.Ids.length:Int)=k) && decide ((t.Hits.length:Int)=h)
theorem It {N:Nat} (hN:1099000000000≤N) (l:List aa) (k h:Int) (hl:l.length≤4294967296):mB N l k h=some (l.all (wZ k h)):=by
 unfold mB
 refine lp0 hN l hl (ei N l k h) (fun t=>some (t.all (wZ k h))) (fun n i x t g1 g2 g3 g4 g5 g6 g7=>?_) (fun n i g1 g2=>?_)
 ·simp only [ei,g5,if_true,g4,Option.bind_some,g6,g7,List.all_cons,wZ]
  by_cases c1:(x.Ids.length:Int)=k
  ·by_cases c2:(x.Hits.length:Int)=h <;> simp [c1,c2]
  ·simp [c1]
 ·simp only [ei,g2,Bool.false_eq_true,if_false]; rfl
def vE (c:aC):Nat→List ab→Bool
 | _,[]=>true
 | i,L :: Ls=>L.Toks.all (wZ ((i+1:Nat):Int) (if i+1=c.Pos.length then (c.Neg.length:Int) else 0)) && vE c (i+1) Ls
def pe (c:aC) (w:aF):Bool:=decide (w.Levels.length=c.Pos.length) && vE c 0 w.Levels
def qI (n:bB) (m:aJ):Bool:=(decide (m.Alphas.length=n.Alphas.length) && decide (m.Rules.length=n.Chains.length)) && gA pe n.Chains m.Rules
theorem FV {N:Nat} (hN:1099000000000≤N) (n:bB) (m:aJ) (s1:Int) (K:Int→Option Bool) (c:aC) (w:aF) (hc:idx n.Chains s1=some c) (hw:idx m.Rules s1=some w) (hl:w.Levels.length=c.Pos.length) (hlm:w.Levels.length≤4294967296) (hz:∀ L∈w.Levels,L.Toks.length≤4294967296) :
  ∀ (k i:Nat),i≤w.Levels.length→w.Levels.length - i < k→bJ N n m s1 K c k (i:Int)=if vE c i (w.Levels.drop i)=true then K (IntKind.i64.wrap (s1+1)) else some false:=by
 intro k
 induction k with
 | zero=>intro i _ h; omega
 | succ k ih=>
  intro i hi hk
  by_cases hlt:i < w.Levels.length
  ·have c1:decide ((i:Int) < (c.Pos.length:Int))=true:=decide_eq_true (by omega)
   have ew:IntKind.i64.wrap ((c.Pos.length:Int) - 1)=((c.Pos.length - 1:Nat):Int):=by
    rw [show ((c.Pos.length:Int) - 1)=((c.Pos.length - 1:Nat):Int) by omega]
    exact wr (by omega) (by omega)
   have hzl:=hz _ (List.getElem_mem hlt)
   rw [List.drop_eq_getElem_cons hlt,vE]
   have j:∀ h:Int,es N m s1 (i:Int) (bJ N n m s1 K c k) h=if (w.Levels[i].Toks.all (wZ ((i+1:Nat):Int) h) && vE c (i+1) (w.Levels.drop (i+1)))=true then K (IntKind.i64.wrap (s1+1)) else some false:=by
    intro h
    unfold es
    simp only [hw,Option.bind_some,ag hlt,wr1 i (by omega),It hN _ _ h hzl,ih (i+1) (by omega) (by omega)]
    cases w.Levels[i].Toks.all (wZ ((i+1:Nat):Int) h) <;> simp
   simp only [bJ,c1,if_true,ew,hc,Option.bind_some,j]
   by_cases he:i+1=c.Pos.length
   ·have c2:decide ((i:Int)=((c.Pos.length - 1:Nat):Int))=true:=decide_eq_true (by omega)
    rw [c2,if_pos rfl,if_pos he]
   ·have c2:decide ((i:Int)=((c.Pos.length - 1:Nat):Int))=false:=decide_eq_false (by omega)
    rw [c2,if_neg (by simp),if_neg he]
  ·have c1:decide ((i:Int) < (c.Pos.length:Int))=false:=decide_eq_false (by omega)
   rw [List.drop_of_length_le (by omega)]
   simp only [bJ,c1,Bool.false_eq_true,if_false,vE,if_true]
theorem Hy {N:Nat} (hN:1099000000000≤N) (n:bB) (m:aJ) (hm:EW m):kt N n m=some (qI n m):=by
 unfold kt qI
 by_cases a1:m.Alphas.length=n.Alphas.length
 ·by_cases a2:m.Rules.length=n.Chains.length
  ·have c1:decide ((m.Alphas.length:Int)=(n.Alphas.length:Int))=true:=decide_eq_true (by omega)
   have c2:decide ((m.Rules.length:Int)=(n.Chains.length:Int))=true:=decide_eq_true (by omega)
   have e3:=lp2 (bo N n m) n.Chains m.Rules a2.symm (by have:=hm.2.1; omega) pe (some true) (some false)
    (fun k i c w g1 g2 g3 g4 g5 g6=>by
     have c3:decide ((i:Int) < (m.Rules.length:Int))=true:=by rw [a2]; exact g5
     have hw:=hm.2.2 w g4
     by_cases hl:w.Levels.length=c.Pos.length
     ·have c4:decide ((w.Levels.length:Int)=(c.Pos.length:Int))=true:=decide_eq_true (by omega)
      have e:=FV hN n m (i:Int) (bo N n m k) c w g1 g2 hl hw.1 (fun L hL=>(hw.2 L hL).1) N 0 (by omega) (by have:=hw.1; omega)
      simp only [List.drop_zero] at e
      rw [show ((0:Nat):Int)=0 from rfl] at e
      simp only [bo,c3,if_true,g1,g2,Option.bind_some,c4,Bool.not_true,Bool.false_eq_true,if_false,e,pe,g6]
      simp only [decide_eq_true hl,Bool.true_and]
     ·have c4:decide ((w.Levels.length:Int)=(c.Pos.length:Int))=false:=decide_eq_false (by omega)
      simp only [bo,c3,if_true,g1,g2,Option.bind_some,c4,Bool.not_false,pe]
      simp only [decide_eq_false hl,Bool.false_and,Bool.false_eq_true,if_false])
    (fun k i g1 g2=>by
     have c3:decide ((i:Int) < (m.Rules.length:Int))=false:=by rw [a2]; exact g1
     simp only [bo,c3,Bool.false_eq_true,if_false]) N 0 (by omega) (by have:=hm.2.1; omega)
   simp only [List.drop_zero] at e3
   rw [show ((0:Nat):Int)=0 from rfl] at e3
   simp only [c1,c2,Bool.not_true,Bool.false_eq_true,if_false,Option.bind_some,e3]
   rw [decide_eq_true a1,decide_eq_true a2]
   cases gA pe n.Chains m.Rules <;> rfl
  ·have c1:decide ((m.Alphas.length:Int)=(n.Alphas.length:Int))=true:=decide_eq_true (by omega)
   have c2:decide ((m.Rules.length:Int)=(n.Chains.length:Int))=false:=decide_eq_false (by omega)
   simp only [c1,c2,Bool.not_true,Bool.not_false,Bool.false_eq_true,if_false,Option.bind_some,if_true]
   rw [decide_eq_false a2]; simp
 ·have c1:decide ((m.Alphas.length:Int)=(n.Alphas.length:Int))=false:=decide_eq_false (by omega)
  simp only [c1,Bool.not_false,if_true,Option.bind_some]
  rw [decide_eq_false a1]; simp
theorem HL {N:Nat} (hN:1099000000000≤N) (l:List aa) (t:aa) (hl:l.length≤4294967296) (hz:∀ u∈l,Ae u):lC N l t=some (decide (t∈l)):=by
 unfold lC
 refine (lp0 hN l hl (eM N l t) (fun v=>some (decide (t∈v))) (fun n i x v g1 g2 g3 g4 g5 g6 g7=>?_) (fun n i g1 g2=>?_))
 ·simp only [eM,g5,if_true,g4,Option.bind_some,Bq hN _ _ (hz x g2).1,Bq hN _ _ (hz x g2).2,g6,g7]
  have e:(t∈x :: v)↔(x.Ids=t.Ids∧x.Hits=t.Hits)∨t∈v:=by
   rw [List.mem_cons]
   refine or_congr ⟨fun h=>by subst h; exact ⟨rfl,rfl⟩,fun h=>by cases x; cases t; simp_all⟩ Iff.rfl
  by_cases c1:x.Ids=t.Ids
  ·by_cases c2:x.Hits=t.Hits
   ·simp [e,c1,c2]
   ·simp [e,c1,c2]
  ·simp [e,c1]
 ·simp only [eM,g2,Bool.false_eq_true,if_false]; simp
theorem wy {α:Type}:∀ {b a:List α},b.Nodup→(∀ y∈b,y∈a)→a.length≤b.length→a.Perm b
 | [],a,_,_,hl=>by
  have:a=[]:=List.length_eq_zero_iff.1 (by simpa using hl)
  subst this; exact List.Perm.refl _
 | y :: b,a,hn,hs,hl=>by
  obtain ⟨s,t,rfl⟩:=List.append_of_mem (hs y (by simp))
  obtain ⟨h1,h2⟩:=List.nodup_cons.1 hn
  have:=wy (b:=b) (a:=s++t) h2 (fun z hz=>by
   have:=hs z (by simp [hz])
   simp only [List.mem_append,List.mem_cons] at this ⊢
   rcases this with h | rfl | h
   ·exact .inl h
   ·exact absurd hz h1
   ·exact .inr h) (by simp at hl ⊢; omega)
  exact List.perm_middle.trans (this.cons y)
theorem wM {α:Type} {p q:α→Prop} [DecidablePred p] [DecidablePred q]:∀ {a b:List α},a.length=b.length→(gA (fun x y=>decide (p x) && decide (q y)) a b=true↔(∀ x∈a,p x)∧∀ y∈b,q y)
 | [],[],_=>by simp [gA]
 | x :: a,y :: b,h=>by
  simp only [gA,Bool.and_eq_true,decide_eq_true_eq,wM (show a.length=b.length by simpa using h),List.mem_cons,forall_eq_or_imp]
  constructor
  ·rintro ⟨⟨h1,h2⟩,h3,h4⟩; exact ⟨⟨h1,h3⟩,h2,h4⟩
  ·rintro ⟨⟨h1,h3⟩,h2,h4⟩; exact ⟨⟨h1,h2⟩,h3,h4⟩
 | [],_ :: _,h=>by simp at h
 | _ :: _,[],h=>by simp at h
theorem GW {N:Nat} (hN:1099000000000≤N) (a b:ab) (ha:JU a) (hb:JU b) (hn:b.Toks.Nodup):jY N a.Toks b.Toks=some (mL a b):=by
 unfold jY mL
 by_cases c:a.Toks.length=b.Toks.length
 ·have c1:decide ((a.Toks.length:Int)=(b.Toks.length:Int))=true:=decide_eq_true (by omega)
  have e3:=lp2 (du N a.Toks b.Toks) a.Toks b.Toks c ha.1 (fun x y=>decide (x∈b.Toks) && decide (y∈a.Toks)) (some true) (some false)
   (fun n i x y g1 g2 g3 g4 g5 g6=>by
    simp only [du,g5,if_true,g1,g2,Option.bind_some,HL hN b.Toks x hb.1 hb.2,HL hN a.Toks y ha.1 ha.2,g6]
    by_cases d1:x∈b.Toks
    ·by_cases d2:y∈a.Toks <;> simp [d1,d2]
    ·simp [d1])
   (fun n i g1 g2=>by simp only [du,g1,Bool.false_eq_true,if_false]) N 0 (by omega) (by have:=ha.1; omega)
  simp only [List.drop_zero] at e3
  rw [show ((0:Nat):Int)=0 from rfl] at e3
  simp only [c1,Bool.not_true,Bool.false_eq_true,if_false,e3]
  by_cases hp:a.Toks.Perm b.Toks
  ·rw [if_pos ((wM c).2 ⟨fun x hx=>hp.mem_iff.1 hx,fun y hy=>hp.mem_iff.2 hy⟩),decide_eq_true hp]
  ·rw [if_neg fun h=>hp (wy hn ((wM c).1 h).2 (by omega)),decide_eq_false hp]
 ·have c1:decide ((a.Toks.length:Int)=(b.Toks.length:Int))=false:=decide_eq_false (by omega)
  simp only [c1,Bool.not_false,if_true]
  rw [decide_eq_false fun h=>c h.length_eq]
theorem FF {N:Nat} (hN:1099000000000≤N) (m x:aJ) (s2:Int) (K:Int→Option Bool) (v w:aF) (hv:idx m.Rules s2=some v) (hw:idx x.Rules s2=some w) (hl:v.Levels.length=w.Levels.length) (zv:Gu v) (zw:Gu w) (hn:∀ L∈w.Levels,L.Toks.Nodup) :
  cM N m x s2 K N 0=if iS v w=true then K (IntKind.i64.wrap (s2+1)) else some false:=by
 have e3:=lp2 (cM N m x s2 K) v.Levels w.Levels hl zv.1 mL (K (IntKind.i64.wrap (s2+1))) (some false)
  (fun n i a b g1 g2 g3 g4 g5 g6=>by
   simp only [cM,hv,hw,g5,if_true,g1,g2,Option.bind_some,GW hN a b (zv.2 a g3) (zw.2 b g4) (hn b g4),g6]
   cases mL a b <;> simp)
  (fun n i g1 g2=>by simp only [cM,hv,Option.bind_some,g1,Bool.false_eq_true,if_false]) N 0 (by omega) (by have:=zv.1; omega)
 simp only [List.drop_zero] at e3
 exact e3
theorem FU {N:Nat} (hN:1099000000000≤N) (m x:aJ) (hm:EW m) (hx:EW x) (h1:m.Alphas.length=x.Alphas.length) (h2:m.Rules.length=x.Rules.length) (h3:∀ (i:Nat) (v w:aF),idx m.Rules (i:Int)=some v→idx x.Rules (i:Int)=some w→v.Levels.length=w.Levels.length)
  (hn:∀ w∈x.Rules,∀ L∈w.Levels,L.Toks.Nodup):cP N m x N 0=some (uB m x):=by
 have b1:=lp2 (bP N m x) m.Rules x.Rules h2 hm.2.1 iS (some true) (some false)
  (fun n i v w g1 g2 g3 g4 g5 g6=>by
   simp only [bP,g5,if_true,FF hN m x (i:Int) _ v w g1 g2 (h3 i v w g1 g2) (hm.2.2 v g3) (hx.2.2 w g4) (hn w g4),g6])
  (fun n i g1 g2=>by simp only [bP,g1,Bool.false_eq_true,if_false]) N 0 (by omega) (by have:=hm.2.1; omega)
 simp only [List.drop_zero] at b1
 have b2:=lp2 (cP N m x) m.Alphas x.Alphas h1 hm.1.1 (fun a b=>decide (a.L=b.L)) (bP N m x N 0) (some false)
  (fun n i u v g1 g2 g3 g4 g5 g6=>by
   simp only [cP,g5,if_true,g1,g2,Option.bind_some,Bq hN u.L v.L (hm.1.2 u g3),g6]
   by_cases e:u.L=v.L <;> simp [e])
  (fun n i g1 g2=>by simp only [cP,g1,Bool.false_eq_true,if_false]) N 0 (by omega) (by have:=hm.1.1; omega)
 simp only [List.drop_zero] at b2
 rw [show ((0:Nat):Int)=0 from rfl] at b1 b2
 rw [b2,b1]
 unfold uB
 cases gA (fun a b=>decide (a.L=b.L)) m.Alphas x.Alphas <;> cases gA iS m.Rules x.Rules <;> rfl
theorem FZ {α:Type} {p:α→Bool} {l m:List α} (h:l.Perm m):l.all p=m.all p:=by
 rw [Bool.eq_iff_iff,List.all_eq_true,List.all_eq_true]
 exact ⟨fun g x hx=>g x (h.mem_iff.2 hx),fun g x hx=>g x (h.mem_iff.1 hx)⟩
theorem A9 {c:aC}:∀ {i:Nat} {l m:List ab},gA mL l m=true→vE c i l=vE c i m
 | i,[],[],_=>rfl
 | i,a :: l,b :: m,h=>by
  simp only [gA,Bool.and_eq_true] at h
  unfold vE
  rw [A9 h.2,FZ (of_decide_eq_true h.1)]
 | i,[],_ :: _,h=>by cases h
 | i,_ :: _,[],h=>by cases h
theorem vX:∀ {cs:List aC} {l m:List aF},gA iS l m=true→gA pe cs l=gA pe cs m
 | [],[],[],_=>rfl
 | c :: cs,[],[],_=>rfl
 | [],v :: l,w :: m,_=>rfl
 | c :: cs,v :: l,w :: m,h=>by
  simp only [gA,Bool.and_eq_true] at h
  unfold gA
  rw [vX h.2]
  congr 1
  unfold pe
  have h1:=h.1
  unfold iS at h1
  rw [A9 h1,nN h1]
 | _,[],_ :: _,h=>by cases h
 | _,_ :: _,[],h=>by cases h
theorem CM {n:bB} {m x:aJ} (h:uB m x=true):qI n m=qI n x:=by
 unfold uB at h
 rw [Bool.and_eq_true] at h
 unfold qI
 rw [nN h.1,nN h.2,vX h.2]
theorem KM {d:bh} {n:bB} {nx:Int} (hats:Ats n.Alphas n.Chains d.Rules):∀ (rest done:List an) (m:aJ),done.length+rest.length≤40→((done++rest).map (·.Id)).Nodup→vV d n done.length m→ES d n done m→ES d n (done++rest) (sH d n nx done rest m)
 | [],done,m,_,_,hi,h=>by simpa [sH] using h
 | x :: t,done,m,hl,hn,hi,h=>by
  simp only [List.length_cons] at hl
  have hn':((done++[x]).map (·.Id)).Nodup:=by
   refine List.Nodup.sublist (List.Sublist.map _ ?_) hn
   simp
  have h1:=wG (s:=⟨done++[x],nx⟩) (id:=x.Id) (by omega) (by simp; omega) hats.len hi
  have h2:=IU (nx:=nx) (by omega) hn' hats hi h
  have:=KM (nx:=nx) hats t (done++[x]) _ (by simp; omega) (by simpa using hn) (by simpa using h1) h2
  unfold sH
  simpa using this
theorem KT {d:bh} {n:bB}:ES d n [] (j4 n):=by
 unfold j4
 refine ⟨?_,fun i r w e1 e2=>?_⟩
 ·unfold tl
  refine List.ext_getElem (by simp) fun i h1 h2=>by simp
 ·simp only [List.getElem?_map,Option.map_eq_some_iff] at e2
  obtain ⟨c,hc,rfl⟩:=e2
  intro k L hL
  simp only [qw] at hL
  obtain ⟨_,e⟩:=List.getElem?_eq_some_iff.1 hL
  rw [List.getElem_replicate] at e
  subst e
  refine ⟨⟨by simp [iy],fun q=>?_⟩,by simp⟩
  simp only [iy,List.map_nil,List.not_mem_nil,false_iff,not_and]
  intro hq hk
  have:=kP _ _ _ hk
  cases q with
  | nil=>simp at hq
  | cons v q=>
   have:=this v (by simp)
   simp [aH] at this
theorem HT {nx:Int}:∀ (t done:List an),lM nx done t=true→(done.Pairwise fun a b=>a.Id < b.Id)→(done++t).Pairwise fun a b=>a.Id < b.Id
 | [],done,_,h=>by simpa using h
 | x :: t,done,ho,h=>by
  unfold lM at ho
  simp only [Bool.and_eq_true] at ho
  have hb:=ho.2.1
  have h':(done++[x]).Pairwise fun a b=>a.Id < b.Id:=by
   rw [List.pairwise_append]
   refine ⟨h,by simp,fun a ha b hb'=>?_⟩
   simp only [List.mem_singleton] at hb'
   subst hb'
   unfold ge at hb
   rcases List.eq_nil_or_concat done with rfl | ⟨q,y,rfl⟩
   ·cases ha
   ·rw [List.concat_eq_append] at ha hb h
    rw [List.getLast?_concat] at hb
    have hb:=of_decide_eq_true hb
    rcases List.mem_append.1 ha with ha | ha
    ·have:=(List.pairwise_append.1 h).2.2 a ha y (by simp)
     omega
    ·simp only [List.mem_singleton] at ha
     subst ha; exact hb
  have:=HT t (done++[x]) ho.2.2.2 h'
  simpa using this
theorem yZ {s:ae} (h:pf s=true):(s.Items.map (·.Id)).Nodup:=by
 unfold pf at h
 simp only [Bool.and_eq_true] at h
 have:=HT s.Items [] h.2.2 (by simp)
 rw [List.nil_append] at this
 unfold List.Nodup
 rw [List.pairwise_map]
 exact this.imp fun h=>by omega
theorem E6 {m:aJ} (h:rZ m):EW m:=⟨⟨h.1.1,fun a ha=>h.1.2 a ha⟩,h.2.1,fun w hw=>⟨(h.2.2 w hw).1,fun L hL=>⟨((h.2.2 w hw).2 L hL).1,fun t ht=>((h.2.2 w hw).2 L hL).2 t ht⟩⟩⟩
theorem GB {d:bh} {xs:List an} {x:aJ} {j:Nat} (hats:Ats (cm d).Alphas (cm d).Chains d.Rules) (hi:vV d (cm d) j x) (hh:ES d (cm d) xs x) (hp:∀ r∈d.Rules,1≤(pos r.Pats).length):qI (cm d) x=true:=by
 have hcl:=hats.len
 unfold qI
 rw [decide_eq_true hi.la,decide_eq_true (by rw [hi.lr,hcl])]
 simp only [Bool.true_and]
 have key:∀ (i:Nat) (c:aC) (w:aF),(cm d).Chains[i]?=some c→x.Rules[i]?=some w→pe c w=true:=fun i c w e1 e2=>by
  obtain ⟨h1,h1'⟩:=List.getElem?_eq_some_iff.1 e1
  have h2:i < d.Rules.length:=by rw [← hcl]; exact h1
  have hat:=hats.get i h1 h2
  rw [h1'] at hat
  have hrow:=hi.rows i _ w (List.getElem?_eq_getElem h2) e2
  have hrh:=hh.rows i _ w (List.getElem?_eq_getElem h2) e2
  have hpl:c.Pos.length=(pos d.Rules[i].Pats).length:=hat.1.len
  have hnl:c.Neg.length=(neg d.Rules[i].Pats).length:=hat.2.len
  unfold pe
  rw [decide_eq_true (by rw [hrow.1,hpl])]
  simp only [Bool.true_and]
  have:∀ (l:List ab) (k:Nat),(∀ q L,l[q]?=some L→w.Levels[k+q]?=some L)→vE c k l=true:=by
   intro l
   induction l with
   | nil=>intro k _; rfl
   | cons L l ih=>
    intro k hk
    have h0:=hk 0 L rfl
    rw [Nat.add_zero] at h0
    obtain ⟨a1,a2⟩:=hrow.2 k L h0
    obtain ⟨b1,b2⟩:=hrh k L h0
    unfold vE
    rw [ih (k+1) fun q M hq=>by
     have:=hk (q+1) M (by simpa using hq)
     rwa [show k+(q+1)=k+1+q by omega] at this,Bool.and_true,List.all_eq_true]
    intro t ht
    have ht1:=(a2 t ht).1
    have ht2:=b2 t ht
    unfold wZ
    rw [ht2]
    unfold pE
    by_cases e:k+1=(pos d.Rules[i].Pats).length
    ·rw [if_pos e,if_pos (by omega),decide_eq_true (by omega),decide_eq_true (by rw [hnl]; simp [eY])]; rfl
    ·rw [if_neg e,if_neg (by omega),decide_eq_true (by omega)]; rfl
  exact this w.Levels 0 fun q L hq=>by rw [Nat.zero_add]; exact hq
 have gen:∀ (cs:List aC) (ws:List aF),cs.length=ws.length→(∀ (i:Nat) (c:aC) (w:aF),cs[i]?=some c→ws[i]?=some w→pe c w=true)→gA pe cs ws=true:=by
  intro cs
  induction cs with
  | nil=>
   intro ws hl _
   cases ws with
   | nil=>rfl
   | cons=>simp at hl
  | cons c cs ih=>
   intro ws hl h
   cases ws with
   | nil=>simp at hl
   | cons w ws=>
    unfold gA
    rw [h 0 c w rfl rfl,ih ws (by simpa using hl) fun i c' w' e1 e2=>h (i+1) c' w' (by simpa using e1) (by simpa using e2)]
    rfl
 exact gen _ _ (by rw [hcl,hi.lr]) key
theorem Dg {N:Nat} (hN:1099000000000≤N) (d:bh) (m:aJ) (s:ae) (h1:lJ d≤1048576) (h3:lK m≤1048576) (h2:gX s≤1048576):∃ r,kz N d m s=some r∧jZ N d m s=some r:=by
 have hz:=Fc d h1
 have hs:=FR s h2
 have hzm:=E6 (xo m h3)
 unfold kz jZ
 rw [L5 hN d hz,KE hN d hz]
 simp only [Option.bind_some]
 cases hd:qn d with
 | false=>
  simp only [Bool.not_false,if_true,Option.bind_some,Bool.false_eq_true,if_false]
  exact ⟨_,rfl,rfl⟩
 | true=>
  simp only [Bool.not_true,Bool.false_eq_true,if_false,GS hN s hs,GH hN s hs,Option.bind_some,if_true]
  cases hso:pf s with
  | false=>
   simp only [Bool.not_false,if_true,Bool.false_eq_true,if_false]
   exact ⟨_,rfl,rfl⟩
  | true=>
   simp only [Bool.not_true,Bool.false_eq_true,if_false,if_true]
   have hl:s.Items.length≤40:=by
    unfold pf at hso
    simp only [Bool.and_eq_true,decide_eq_true_eq] at hso
    exact hso.2.1
   have hnd:=si hd
   have hats:=(tx hnd).2.1
   obtain ⟨⟨z1,z2⟩,z3,z4⟩:=wP hnd
   have hm0:=Dr hats
   have hlp:=BT hN d s hd hz hl (fun x hx=>(hs.2 x hx).2.1) s.Items [] N (j4 (cm d)) (by omega) rfl hm0
   simp only [List.length_nil,Int.natCast_zero] at hlp
   have hinv:=FW (nx:=s.Next) hats.len s.Items [] (j4 (cm d)) (by simpa using hl) hm0
   have hh:=KM (nx:=s.Next) hats s.Items [] (j4 (cm d)) (by simpa using hl) (by simpa using yZ hso) hm0 KT
   simp only [List.nil_append,List.length_nil,Nat.zero_add] at hinv hh
   have hmn:=Fv hN (cm d) z1 z3 (fun c hc=>(z4 c hc).1)
   have hms:=Fj hN (cm d) z1 z3 (fun c hc=>(z4 c hc).1)
   generalize hx:sH d (cm d) s.Next [] s.Items (j4 (cm d))=x at hlp hinv hh
   have hzx:=E6 (Hx hd (m:=x) ⟨hinv.la,hinv.lr,fun i hi=>by have:=hinv.al i hi; omega,fun i r w e1 e2=>by
     obtain ⟨a,b⟩:=hinv.rows i r w e1 e2
     exact ⟨a,fun k L hL=>⟨Nat.le_trans (b k L hL).1 (Nat.mul_le_mul_right _ hl),(b k L hL).2⟩⟩⟩).1
   have hp1:∀ r∈d.Rules,1≤(pos r.Pats).length:=fun r hr=>by
    have ho:=qK hd r hr
    unfold lv at ho
    simp only [Bool.and_eq_true] at ho
    have hp:=ho.2.2.1
    have hfc:(pos r.Pats).length=ah r.Pats:=oJ r.Pats
    unfold iP at hp
    simp only [Bool.and_eq_true,decide_eq_true_eq] at hp
    have:=hp.2.1.1
    omega
   have hsx:=GB hats hinv hh hp1
   have hnx:∀ w∈x.Rules,∀ L∈w.Levels,L.Toks.Nodup:=fun w hw L hL=>by
    obtain ⟨i,hi,rfl⟩:=List.getElem_of_mem hw
    have hi':i < d.Rules.length:=by rw [← hinv.lr]; exact hi
    obtain ⟨k,hk,rfl⟩:=List.getElem_of_mem hL
    have:=(hh.rows i _ _ (List.getElem?_eq_getElem hi') (List.getElem?_eq_getElem hi) k _ (List.getElem?_eq_getElem hk)).1.nd
    unfold iy at this
    exact List.Pairwise.imp (fun h e=>h (by rw [e])) (List.pairwise_map.1 this)
   refine ⟨uB m x,?_,?_⟩
   ·rw [Kd hN d hnd,Option.bind_some]
    unfold sk
    rw [hms,Option.bind_some]
    have h5:fG N d (cm d) s N (j4 (cm d)).Alphas (j4 (cm d)).Rules 0=_:=hlp.2
    rw [h5,Option.bind_some,Hy hN (cm d) m hzm,Option.bind_some]
    cases hsm:qI (cm d) m with
    | false=>
     simp only [Bool.not_false,if_true]
     cases hsame:uB m x with
     | false=>rfl
     | true=>
      have:=CM (n:=cm d) hsame
      rw [hsm,hsx] at this
      cases this
    | true=>
     simp only [Bool.not_true,Bool.false_eq_true,if_false]
     have q:=hsm
     have q':=hsx
     unfold qI at q q'
     simp only [Bool.and_eq_true,decide_eq_true_eq] at q q'
     refine FU hN m x hzm hzx (by rw [q.1.1,q'.1.1]) (by rw [q.1.2,q'.1.2]) (fun i v w g1 g2=>?_) hnx
     have e1:m.Rules[i]?=some v:=by rw [← kK]; exact g1
     have e2:x.Rules[i]?=some w:=by rw [← kK]; exact g2
     have hlen:∀ (cs:List aC) (ws:List aF),gA pe cs ws=true→∀ (i:Nat) (u:aF),ws[i]?=some u→∃ c,cs[i]?=some c∧u.Levels.length=c.Pos.length:=by
      intro cs
      induction cs with
      | nil=>
       intro ws h i u hu
       cases ws with
       | nil=>simp at hu
       | cons=>cases h
      | cons c cs ih=>
       intro ws h i u hu
       cases ws with
       | nil=>cases h
       | cons w ws=>
        simp only [gA,Bool.and_eq_true] at h
        cases i with
        | zero=>
         simp only [List.getElem?_cons_zero,Option.some.injEq] at hu
         subst hu
         have h0:=h.1
         unfold pe at h0
         rw [Bool.and_eq_true,decide_eq_true_eq] at h0
         exact ⟨c,rfl,h0.1⟩
        | succ i=>
         obtain ⟨c',h1,h2⟩:=ih ws h.2 i u (by simpa using hu)
         exact ⟨c',by simpa using h1,h2⟩
     obtain ⟨c1,f1,f2⟩:=hlen _ _ q.2 i v e1
     obtain ⟨c2,f3,f4⟩:=hlen _ _ q'.2 i w e2
     rw [f1] at f3
     cases f3
     rw [f2,f4]
   ·unfold sv
    rw [GP hN d hnd,Option.bind_some,hmn,Option.bind_some]
    have h5:fF N d s (cm d) N (j4 (cm d)).Alphas (j4 (cm d)).Rules 0=_:=hlp.1
    rw [h5,Option.bind_some,Eo hN m x hzm hzx]
    rfl
set_option maxRecDepth 10000
theorem sy {x0:bh} (w0:Bj x0) {x1:aJ} (w1:Bu x1) {x2:ae} (w2:tI x2) {N:Nat} (hN0:1099400000000≤N):ey N x0 x1 x2=some true:=by
 have hN:1099000000000≤N:=by omega
 unfold ey
 obtain ⟨v0,hv0,hs0⟩:=BK hN x0 w0 1048576 (by omega) (by omega)
 rw [hv0]; simp only [Option.bind_some]
 by_cases c0:v0 < 0
 ·rw [if_pos (by simpa using c0)]
 rw [if_neg (by simpa using c0)]
 replace hs0:=hs0.resolve_left c0
 have n0:=CZ x0
 obtain ⟨v1,hv1,hs1⟩:=Be hN x1 w1 v0 (by omega) (by omega)
 rw [hv1]; simp only [Option.bind_some]
 by_cases c1:v1 < 0
 ·rw [if_pos (by simpa using c1)]
 rw [if_neg (by simpa using c1)]
 replace hs1:=hs1.resolve_left c1
 have n1:=CL x1
 obtain ⟨v2,hv2,hs2⟩:=xw hN x2 w2 v1 (by omega) (by omega)
 rw [hv2]; simp only [Option.bind_some]
 by_cases c2:v2 < 0
 ·rw [if_pos (by simpa using c2)]
 rw [if_neg (by simpa using c2)]
 replace hs2:=hs2.resolve_left c2
 have n2:=Bk x2
 have l0:vp x0:=Du x0 (by omega)
 have l1:rZ x1:=xo x1 (by omega)
 have l2:sw x2:=BA x2 (by omega)
 have t0:lJ x0≤1048576:=by omega
 have t1:lK x1≤1048576:=by omega
 have t2:gX x2≤1048576:=by omega
 obtain ⟨r,hr,hi⟩:=Dg (N:=N) (by omega) x0 x1 x2 t0 t1 t2
 simp only [Am hN x0 l0,BN hN x0 x0 l0,An hN x1 l1,Bx hN x1 x1 l1,xf hN x2 l2,wn hN x2 x2 l2,hr,hi,Fe,Option.bind_some,decide_true,bne_self_eq_false,Bool.not_true,Bool.not_false,Bool.false_eq_true,if_false,if_true]
namespace fnExactMemSound
theorem law {x0:bh} (w0:Bj x0) {x1:aJ} (w1:Bu x1) {x2:ae} (w2:tI x2):ey 1099511627776 x0 x1 x2=some true:=sy w0 w1 w2 (by omega)
end fnExactMemSound
end Go.Proofs.YtiljnppocjgkkaaGreat
