/- Plain laws, one after the other: PLSets. -/
import Derived.Test.YtedmfnmbjglmbaaGreatTSets
import Derived.Test.YtedmfnmbjglmbaaGreatPLib
import Derived.Test.YtedmfnmbjglmbaaGreatWSetsPur
import Derived.Test.YtedmfnmbjglmbaaGreatWSetsMod
namespace Go.Proofs.YtedmfnmbjglmbaaGreat
open Eng
set_option linter.unusedVariables false
set_option linter.unusedSimpArgs false
theorem Km {N:Nat} (a:1099000000000≤N) (f:aH) (h:yb f):po N f=some (rL f):=by
  obtain⟨h1,d,b⟩:=h
  unfold po rL rM
  have d1:decide ((f.Fields.length:Int)≤5)=decide (f.Fields.length≤5):=by rw[decide_eq_decide];omega
  have c:eM N f.Fields N 0=some (f.Fields.all rp && decide (f.Fields.length≤5)):=lp0 a f.Fields MB (eM N f.Fields) (fun t=>some (t.all rp && decide (f.Fields.length≤5))) (fun n i x t g1 g2 g3 g4 g5 g6 g7=>by
    simp only[eM,g5,if_true,g4,gf,J0 (show 1048578≤N by omega) x (b x g2),DL (show 1048578≤N by omega) x (b x g2),g6,g7,ix]
    cases rp x <;> simp) (fun n i g1 g2=>by simp only[eM,g2,gh,if_false,d1];rfl)
  simp only[ri a _ h1,gf,c,nK]
theorem EI {done t:List aw} {x:aw} (h:∀ y∈done,y.Id < x.Id):decide (AA (done++x :: t) x.F=x.Id)=done.all fun y=>!decide (x.F=y.F):=by
  induction done with
  | nil=>
    rw[hB,w3,if_pos rfl];simp
  | cons y d b=>
    rw[hW,w3,ix]
    by_cases he:y.F=x.F
    · have:=h y MC
      rw[if_pos he]
      have a:decide (x.F=y.F)=true:=decide_eq_true he.symm
      rw[a,decide_eq_false MB];simp
    · rw[if_neg he,b fun z c=>h z (by simp[c])]
      have a:decide (x.F=y.F)=false:=decide_eq_false (fun e=>he e.symm)
      rw[a];simp
theorem IF {N:Nat} (j:1099000000000≤N) (s:ag) (h:tq s):nj N s=some (iZ s):=by
  obtain⟨h1,k⟩:=h
  unfold nj iZ
  have d1:decide ((40:Int) < (s.Items.length:Int)) = !decide (s.Items.length≤40):=by rw[← decide_not,decide_eq_decide];omega
  have lp:∀ (n i:Nat),i≤s.Items.length→s.Items.length - i < n→(∀ y∈s.Items.take i,∀ z,(s.Items.take i).getLast?=some z→y.Id≤z.Id)→gA N s n i=some (kU s.Next (s.Items.take i) (s.Items.drop i)):=by
    intro n
    induction n with
    | zero=>intro i _ h;omega
    | succ n u=>
      intro i v hm w
      simp only[gA]
      by_cases c:i < s.Items.length
      · have c1:decide ((i:Int) < (s.Items.length:Int))=true:=decide_eq_true MB
        have A:=k _ (hz c)
        have B:(if decide (0 < (i:Int))=true then (idx s.Items (IntKind.i64.wrap ((i:Int) - 1))).bind fun C=>some (decide (s.Items[i].Id≤C.Id)) else some false)=some (!(gu (s.Items.take i) s.Items[i].Id)):=by
          by_cases D:0 < i
          · have d:IntKind.i64.wrap ((i:Int) - 1)=((i - 1:Nat):Int):=by rw[wr MB MB];omega
            unfold gu;rw[BK D v,decide_eq_true (show (0:Int) < (i:Int) by omega),d]
            simp only[if_true,an (show i - 1 < s.Items.length by omega),gf]
            rw[← decide_not];congr 1;rw[decide_eq_decide];omega
          · have:i=0:=by omega
            subst this
            simp[gu]
        have l:s.Items.take (i+1)=s.Items.take i++[s.Items[i]]:=z1 c
        have E:s.Items=s.Items.take i++s.Items[i] :: s.Items.drop (i+1):=by
          rw[← ho c,List.take_append_drop]
        rw[ho c,kU,← l]
        simp only[c1,if_true,an c,gf,Km j _ A,B,Cu j s s.Items[i].F MB (fun x F=>(k x F).2.1),wr1 i MB]
        cases rL s.Items[i].F with
        | false=>simp
        | true=>
          by_cases m:1≤s.Items[i].Id
          · by_cases o:s.Items[i].Id < s.Next
            · have d:decide (s.Items[i].Id < 1)=false:=decide_eq_false MB
              have f:decide (s.Next≤s.Items[i].Id)=false:=decide_eq_false MB
              rw[d,f,decide_eq_true m,decide_eq_true o]
              cases g:(gu (s.Items.take i) s.Items[i].Id) with
              | false=>simp
              | true=>
                have p:∀ y∈s.Items.take i,y.Id < s.Items[i].Id:=by
                  intro y a
                  cases e:(s.Items.take i).getLast? with
                  | none=>rw[List.getLast?_eq_none_iff] at e;rw[e] at a;cases a
                  | some z=>
                    unfold gu at g
                    rw[e] at g
                    have:=of_decide_eq_true g
                    have:=w y a z e
                    omega
                have q:=EI (t:=s.Items.drop (i+1)) p
                rw[← E] at q
                have G:=u (i+1) MB MB (by
                  intro y a z b
                  rw[l] at a b
                  rw[ML] at b
                  have b:=Option.some.inj b
                  rcases gb.1 a with a | a
                  · have:=p y a;rw[← b];omega
                  · simp at a;rw[a,← b];exact Int.le_refl _)
                simp only[hA,gh,if_false,gf,q,G,hK,LL]
                cases (s.Items.take i).all fun y=>!decide (s.Items[i].F=y.F) <;> simp
            · have f:decide (s.Next≤s.Items[i].Id)=true:=decide_eq_true MB
              rw[f,decide_eq_false o]
              cases decide (s.Items[i].Id < 1) <;> simp
          · have d:decide (s.Items[i].Id < 1)=true:=decide_eq_true MB
            rw[d,decide_eq_false m]
            simp
      · have c1:decide ((i:Int) < (s.Items.length:Int))=false:=decide_eq_false MB
        rw[hy MB]
        simp only[c1,gh,if_false];rfl
  have r:=lp N 0 MB MB MC
  rw[List.take_zero,hE,show ((0:Nat):Int)=0 from rfl] at r
  simp only[in0,gf,d1,r]
  cases (decide (1≤s.Next) && decide (s.Next≤1000000)) <;> cases decide (s.Items.length≤40) <;> simp
theorem KC {N:Nat} (a:1099000000000≤N) (f:aH) (h:yb f):oJ N f=some (rL f):=by
  obtain⟨h1,d,b⟩:=h
  unfold oJ rL
  have c:f7 N f N 0=some (f.Fields.all rp):=lp0 a f.Fields MB (f7 N f) (fun t=>some (t.all rp)) (fun n i x t g1 g2 g3 g4 g5 g6 g7=>by
    simp only[f7,g5,if_true,g4,gf,DL (show 1048578≤N by omega) x (b x g2),g6,g7,ix]
    cases rp x <;> simp) (fun n i g1 g2=>by simp only[f7,g2,gh,if_false];rfl)
  have d1:decide ((5:Int) < (f.Fields.length:Int)) = !decide (f.Fields.length≤5):=by rw[← decide_not,decide_eq_decide];omega
  simp only[qV a _ h1,gf,d1,c]
  cases dU f.Kind <;> cases decide (f.Fields.length≤5) <;> simp
theorem Hw {N:Nat} (f:1099000000000≤N) (x y:aH) (g:x.Fields.length≤4294967296):m2 N x y=some (decide (x=y)):=by
  have e:bU N x.Fields y.Fields=some (decide (x.Fields=y.Fields)):=by
    unfold bU
    by_cases c:x.Fields.length=y.Fields.length
    · rw[if_neg (by simp;omega)]
      refine (rS (bp N x.Fields y.Fields) x.Fields y.Fields c MB (fun a b=>some (decide (a=b))) (fun a _ b _=>rfl) (fun k i=>by simp only[bp,hP,gf]) N 0 MB MB).trans ?_
      simp
    · rw[if_pos (by simp;omega)]
      have : ¬ x.Fields=y.Fields:=fun e=>c (by rw[e])
      simp[this]
  unfold m2
  simp only[e,gf,nK,kA]
  obtain⟨a,b⟩:=x;obtain⟨c,d⟩:=y
  simp only[aH.mk.injEq,Bool.decide_and]
theorem Bc {α:Type} {xs:List α} {i:Nat} (h:i≤xs.length):ssl xs 0 (i:Int)=some (xs.take i):=by
  unfold ssl
  have:(0:Int)≤0∧(0:Int)≤(i:Int)∧(i:Int)≤(xs.length:Int):=by omega
  simp[h]
theorem Hz {N:Nat} (b:1099000000000≤N) (s:ag) (h:tq s):nH N s=some (iZ s):=by
  obtain⟨h1,f⟩:=h
  unfold nH iZ
  have d1:decide ((40:Int) < (s.Items.length:Int)) = !decide (s.Items.length≤40):=by rw[← decide_not,decide_eq_decide];omega
  simp only[in1,gf,d1]
  by_cases c:1≤s.Next∧s.Next≤1000000
  · have lp:∀ (n i:Nat),i≤s.Items.length→s.Items.length - i < n→d4 N s n i=some (kU s.Next (s.Items.take i) (s.Items.drop i)):=by
      intro n
      induction n with
      | zero=>intro i _ h;omega
      | succ n g=>
        intro i j hm
        simp only[d4]
        by_cases a:i < s.Items.length
        · have c1:decide ((i:Int) < (s.Items.length:Int))=true:=decide_eq_true MB
          have d:=f _ (hz a)
          have l:IntKind.i64.wrap (s.Next - 1)=s.Next - 1:=wr MB MB
          have o:(if decide (0 < (i:Int))=true then (idx s.Items (IntKind.i64.wrap ((i:Int) - 1))).bind fun p=>some (decide (s.Items[i].Id≤p.Id)) else some false)=some (!(gu (s.Items.take i) s.Items[i].Id)):=by
            by_cases q:0 < i
            · have r:IntKind.i64.wrap ((i:Int) - 1)=((i - 1:Nat):Int):=by rw[wr MB MB];omega
              unfold gu;rw[BK q j,decide_eq_true (show (0:Int) < (i:Int) by omega),r]
              simp only[if_true,an (show i - 1 < s.Items.length by omega),gf]
              rw[← decide_not];congr 1;rw[decide_eq_decide];omega
            · have:i=0:=by omega
              subst this
              simp[gu]
          have u:eu N (i:Int) (d4 N s n) s.Items[i] (s.Items.take i) N 0=some ((((s.Items.take i).all fun y=>!decide (s.Items[i].F=y.F))) && kU s.Next (s.Items.take (i+1)) (s.Items.drop (i+1))):=by
            refine lp0 b (s.Items.take i) (by rw[n0];omega) (eu N (i:Int) (d4 N s n) s.Items[i] (s.Items.take i)) (fun t=>some ((t.all fun y=>!decide (s.Items[i].F=y.F)) && kU s.Next (s.Items.take (i+1)) (s.Items.drop (i+1)))) (fun m k y t g1 g2 g3 g4 g5 g6 g7=>?_) (fun m k g1 g2=>?_)
            · simp only[eu,g5,if_true,g4,gf,Hw b s.Items[i].F y.F (by have:=d.2.1;omega),g6,g7,ix]
              cases decide (s.Items[i].F=y.F) <;> simp
            · simp only[eu,g2,gh,if_false,wr1 i MB,g (i+1) MB MB];rfl
          have d2:decide (s.Items[i].Id≤s.Next - 1)=decide (s.Items[i].Id < s.Next):=by rw[decide_eq_decide];omega
          have v:s.Items.take (i+1)=s.Items.take i++[s.Items[i]]:=z1 a
          rw[ho a,kU,← v]
          simp only[c1,if_true,an a,gf,KC b _ d,in1,l,d2,o,Bc (show i≤s.Items.length by omega),u]
          cases rL s.Items[i].F with
          | false=>simp
          | true=>
            cases (decide (1≤s.Items[i].Id) && decide (s.Items[i].Id < s.Next)) with
            | false=>simp
            | true=>
              cases (gu (s.Items.take i) s.Items[i].Id) <;> simp
        · have c1:decide ((i:Int) < (s.Items.length:Int))=false:=decide_eq_false MB
          rw[hy MB]
          simp only[c1,gh,if_false];rfl
    have e:=lp N 0 MB MB
    rw[List.take_zero,hE,show ((0:Nat):Int)=0 from rfl] at e
    rw[e,decide_eq_true c.1,decide_eq_true c.2]
    cases decide (s.Items.length≤40) <;> simp
  · have:(decide (1≤s.Next) && decide (s.Next≤1000000))=false:=by
      rw[Bool.eq_false_iff]
      intro h
      simp only[gI,decide_eq_true_eq] at h
      exact c h
    rw[this]
    cases decide (s.Items.length≤40) <;> simp
theorem Fh {N:Nat} (c:1099000000000≤N) (as:List ax) (cs:List aR) (p:au) (hp:p.Args.length≤1048576) (f:as.length≤4194304) (h:∀ a∈as,kh a) :
    jh N ⟨as,cs⟩ p=some ((bG as (bb p)).1,⟨(bG as (bb p)).2,cs⟩):=by
  unfold jh
  rw[If c p hp,gf]
  have lp:∀ (n i:Nat),i≤as.length→as.length - i < n→cX N ⟨as,cs⟩ (bb p) n i =
      some (match (as.drop i).findIdx? (fun x=>decide (x=bb p)) with | some j=>((i+j:Nat):Int) | none=>(as.length:Int),⟨match (as.drop i).findIdx? (fun x=>decide (x=bb p)) with | some j=>as | none=>as++[bb p],cs⟩):=by
    intro n
    induction n with
    | zero=>intro i _ h;omega
    | succ n d=>
      intro i g k
      by_cases b:i < as.length
      · have c1:decide ((i:Int) < (as.length:Int))=true:=decide_eq_true MB
        rw[ho b,List.findIdx?_cons]
        simp only[cX,c1,if_true,an b,gf,HD c _ _ (h _ (hz b)),wr1 i MB,d (i+1) MB MB]
        by_cases he:as[i]=bb p
        · simp[he]
        · simp only[he,decide_false,gh,if_false]
          cases (as.drop (i+1)).findIdx? (fun x=>decide (x=bb p)) with
          | none=>rfl
          | some j=>simp only[zw];rw[show i+(j+1)=i+1+j by omega]
      · have c1:decide ((i:Int) < (as.length:Int))=false:=decide_eq_false MB
        rw[hy MB]
        simp only[cX,c1,gh,if_false,bD (show as.length+[bb p].length≤4294967296 by simp;omega),gf,List.findIdx?_nil]
        have e:IntKind.i64.wrap (((as++[bb p]).length:Int) - 1)=(as.length:Int):=by
          rw[wr (by simp only[hd,gx,ha];omega) (by simp only[hd,gx,ha];omega)];simp only[hd,gx,ha];omega
        rw[e]
  have:=lp N 0 MB MB
  rw[show ((0:Nat):Int)=0 from rfl,hE] at this
  rw[this]
  unfold bG
  cases as.findIdx? (fun x=>decide (x=bb p)) <;> simp
theorem Hx {N:Nat} (c:1099000000000≤N) (d:bo) (h:vR d.Rules):rk N d=some (cc d):=by
  obtain⟨h1,v,w⟩:=h
  unfold rk cc
  refine lp' c d.Rules MB (fun n (s:List ax × List aR) i=>eZ N d n s.1 s.2 i) (fun t s=>some (ey s.1 s.2 t)) (fun s t=>s.1.length+mo t≤1048576∧s.2.length+t.length≤1048576∧∀ a∈s.1,kh a) ([],[]) ⟨by simpa using v,by simpa using h1,MC⟩ (fun n s i r t g1 g2 g3 g4 g5 g6 g x=>?_) (fun n s i g1 g2 g=>?_)
  · obtain⟨y,i2,i3⟩:=g
    rw[mt] at y
    simp only[gx] at i2
    simp only[eZ,g5,if_true,g4,gf,ey]
    have key:∀ (as:List ax),as.length+r.Pats.length+mo t≤1048576→(∀ a∈as,kh a)→fT N s.2 (i:Int) (eZ N d n) r N as [] [] 0=some (ey (bI as [] [] r.Pats).1 (s.2++[⟨(bI as [] [] r.Pats).2.1,(bI as [] [] r.Pats).2.2⟩]) t):=by
      intro as z A
      refine lp' c r.Pats MB (fun m (u:List ax × List Int × List Int) k=>fT N s.2 (i:Int) (eZ N d n) r m u.1 u.2.1 u.2.2 k) (fun l u=>some (ey (bI u.1 u.2.2 u.2.1 l).1 (s.2++[⟨(bI u.1 u.2.2 u.2.1 l).2.1,(bI u.1 u.2.2 u.2.1 l).2.2⟩]) t))
        (fun u l=>u.1.length+l.length+mo t≤1048576∧u.2.1.length+u.2.2.length+l.length≤1048576∧∀ a∈u.1,kh a) (as,[],[]) ⟨z,by simp;omega,A⟩ (fun m u k p l f1 f2 f3 f4 f5 f6 e j=>?_) (fun m u k f1 f2 e=>?_)
      · obtain⟨f,o,b⟩:=e
        simp only[gx] at f o
        have hp:=w r g2 p f2
        have B:=(qb u.1 (bb p)).1
        have q:=sN b (ui hp)
        simp only[fT,f5,if_true,f4,gf,Fh c u.1 s.2 p hp MB b,f6,bI]
        cases C:p.Not with
        | true=>
          simp only[if_true,bD (show u.2.1.length+[(bG u.1 (bb p)).1].length≤4294967296 by simp;omega),gf]
          exact j ((bG u.1 (bb p)).2,u.2.1++[(bG u.1 (bb p)).1],u.2.2) ⟨by simp only;omega,by simp;omega,q⟩
        | false=>
          simp only[gh,if_false,bD (show u.2.2.length+[(bG u.1 (bb p)).1].length≤4294967296 by simp;omega),gf]
          exact j ((bG u.1 (bb p)).2,u.2.1,u.2.2++[(bG u.1 (bb p)).1]) ⟨by simp only;omega,by simp;omega,q⟩
      · obtain⟨f,o,b⟩:=e
        simp only[fT,f2,gh,if_false,bD (show s.2.length+[(⟨u.2.2,u.2.1⟩:aR)].length≤4294967296 by simp;omega),gf,g6,bI]
        exact x (u.1,s.2++[⟨u.2.2,u.2.1⟩]) ⟨by simp only[ha] at f ⊢;omega,by simp;omega,b⟩
    exact key s.1 MB i3
  · simp only[eZ,g2,gh,if_false];rfl
theorem AC {N:Nat} (d:1099000000000≤N) (x y:List Int) (f:x.length≤4294967296):iR N x y=some (decide (x=y)):=by
  unfold iR
  by_cases c:x.length=y.length
  · rw[if_neg (by simp;omega)]
    refine (rS (iI N x y) x y c MB (fun a b=>some (decide (a=b))) (fun a _ b _=>rfl) (fun k i=>rfl) N 0 MB MB).trans ?_
    simp
  · rw[if_pos (by simp;omega)]
    have : ¬ x=y:=fun e=>c (by rw[e])
    simp[this]
theorem HA {N:Nat} (c:1099000000000≤N) (p:au) (d:p.Args.length≤1048576):nu N p=some (bb p):=by
  have lp:∀ (n i:Nat) (cs:List bi) (as:List Int),i≤p.Args.length→p.Args.length - i < n→cs.length≤i→as.length≤i →
      fg N p n cs as i=some ⟨p.Kind,(p.Args.length:Int),cs++jM (p.Args.drop i),as++ats i (p.Args.drop i)⟩:=by
    intro n
    induction n with
    | zero=>intro i _ _ _ h;omega
    | succ n a=>
      intro i cs as e f h1 g
      by_cases b:i < p.Args.length
      · have c1:decide ((i:Int) < (p.Args.length:Int))=true:=decide_eq_true MB
        rw[ho b]
        simp only[fg,c1,if_true,an b,gf,wr1 i MB,jM,ats]
        by_cases hk:p.Args[i].K=2
        · simp only[hk,decide_true,if_true,bD (show cs.length+[p.Args[i].V].length≤4294967296 by simp;omega),bD (show as.length+[(i:Int)].length≤4294967296 by simp;omega),gf]
          rw[a (i+1) _ _ MB MB (by simp;omega) (by simp;omega)];simp
        · simp only[hk,decide_false,gh,if_false]
          exact a (i+1) _ _ MB MB MB MB
      · have c1:decide ((i:Int) < (p.Args.length:Int))=false:=decide_eq_false MB
        rw[hy MB]
        simp only[fg,c1,gh,if_false,jM,ats,mx]
  have:=lp N 0 [] [] MB MB MC MC
  unfold nu bb
  simpa using this
theorem IH {N:Nat} (m:1099000000000≤N) (x y:ax) (h:kh x):kJ N x y=some (decide (x=y)):=by
  unfold kJ
  simp only[AC m _ _ (show x.At.length≤4294967296 by have:=h.2;omega),FL m _ _ (show x.Consts.length≤4294967296 by have:=h.1;omega),gf,nK,kA]
  obtain⟨a,b,c,d⟩:=x;obtain⟨e,f,g,k⟩:=y
  congr 1
  rw[Bool.eq_iff_iff]
  simp only[ax.mk.injEq,gI,decide_eq_true_eq]
  constructor
  · rintro⟨⟨⟨h1,i⟩,j⟩,l⟩;exact⟨h1,i,l,j⟩
  · rintro⟨h1,i,l,j⟩;exact⟨⟨⟨h1,i⟩,j⟩,l⟩
theorem KB {N:Nat} (c:1099000000000≤N) (as:List ax) (cs:List aR) (a:ax) (f:as.length≤4194304) (h:∀ a∈as,kh a) :
    nr N ⟨as,cs⟩ a=some ((bG as a).1,⟨(bG as a).2,cs⟩):=by
  unfold nr
  have lp:∀ (n i:Nat),i≤as.length→as.length - i < n→fd N ⟨as,cs⟩ a n i =
      some (match (as.drop i).findIdx? (fun x=>decide (x=a)) with | some j=>((i+j:Nat):Int) | none=>(as.length:Int),⟨match (as.drop i).findIdx? (fun x=>decide (x=a)) with | some j=>as | none=>as++[a],cs⟩):=by
    intro n
    induction n with
    | zero=>intro i _ h;omega
    | succ n d=>
      intro i g k
      by_cases b:i < as.length
      · have c1:decide ((i:Int) < (as.length:Int))=true:=decide_eq_true MB
        rw[ho b,List.findIdx?_cons]
        simp only[fd,c1,if_true,an b,gf,IH c _ _ (h _ (hz b)),wr1 i MB,d (i+1) MB MB]
        by_cases he:as[i]=a
        · simp[he]
        · simp only[he,decide_false,gh,if_false]
          cases (as.drop (i+1)).findIdx? (fun x=>decide (x=a)) with
          | none=>rfl
          | some j=>simp only[zw];rw[show i+(j+1)=i+1+j by omega]
      · have c1:decide ((i:Int) < (as.length:Int))=false:=decide_eq_false MB
        rw[hy MB]
        simp only[fd,c1,gh,if_false,bD (show as.length+[a].length≤4294967296 by simp;omega),gf,List.findIdx?_nil]
        have e:IntKind.i64.wrap (((as++[a]).length:Int) - 1)=(as.length:Int):=by
          rw[wr (by simp only[hd,gx,ha];omega) (by simp only[hd,gx,ha];omega)];simp only[hd,gx,ha];omega
        rw[e]
  have:=lp N 0 MB MB
  rw[show ((0:Nat):Int)=0 from rfl,hE] at this
  rw[this]
  unfold bG
  cases as.findIdx? (fun x=>decide (x=a)) <;> simp
theorem IS {N:Nat} (b:1099000000000≤N) (d:bo) (h:vR d.Rules):mC N d=some (cc d):=by
  obtain⟨h1,v,w⟩:=h
  unfold mC cc
  refine lp' b d.Rules MB (fun n (s:List ax × List aR) i=>dV N d n s.1 s.2 i) (fun t s=>some (ey s.1 s.2 t)) (fun s t=>s.1.length+mo t≤1048576∧s.2.length+t.length≤1048576∧∀ a∈s.1,kh a) ([],[]) ⟨by simpa using v,by simpa using h1,MC⟩ (fun n s i r t g1 g2 g3 g4 g5 g6 g x=>?_) (fun n s i g1 g2 g=>?_)
  · obtain⟨y,i2,i3⟩:=g
    rw[mt] at y
    simp only[gx] at i2
    simp only[dV,g5,if_true,ey]
    have key:∀ (as:List ax),as.length+r.Pats.length+mo t≤1048576→(∀ a∈as,kh a)→f8 N d s.2 (i:Int) (dV N d n) N as [] [] 0=some (ey (bI as [] [] r.Pats).1 (s.2++[⟨(bI as [] [] r.Pats).2.1,(bI as [] [] r.Pats).2.2⟩]) t):=by
      intro as z A
      refine lp' b r.Pats MB (fun m (u:List ax × List Int × List Int) k=>f8 N d s.2 (i:Int) (dV N d n) m u.1 u.2.1 u.2.2 k) (fun l u=>some (ey (bI u.1 u.2.2 u.2.1 l).1 (s.2++[⟨(bI u.1 u.2.2 u.2.1 l).2.1,(bI u.1 u.2.2 u.2.1 l).2.2⟩]) t))
        (fun u l=>u.1.length+l.length+mo t≤1048576∧u.2.1.length+u.2.2.length+l.length≤1048576∧∀ a∈u.1,kh a) (as,[],[]) ⟨z,by simp;omega,A⟩ (fun m u k p l f1 f2 f3 f4 f5 f6 e j=>?_) (fun m u k f1 f2 e=>?_)
      · obtain⟨f,o,c⟩:=e
        simp only[gx] at f o
        have hp:=w r g2 p f2
        have B:=(qb u.1 (bb p)).1
        have q:=sN c (ui hp)
        simp only[f8,g4,f5,if_true,f4,gf,HA b p hp,KB b u.1 s.2 _ (show u.1.length≤4194304 by omega) c,f6,bI]
        cases C:p.Not with
        | true=>
          simp only[if_true,bD (show u.2.1.length+[(bG u.1 (bb p)).1].length≤4294967296 by simp;omega),gf]
          exact j ((bG u.1 (bb p)).2,u.2.1++[(bG u.1 (bb p)).1],u.2.2) ⟨by simp only;omega,by simp;omega,q⟩
        | false=>
          simp only[gh,if_false,bD (show u.2.2.length+[(bG u.1 (bb p)).1].length≤4294967296 by simp;omega),gf]
          exact j ((bG u.1 (bb p)).2,u.2.1,u.2.2++[(bG u.1 (bb p)).1]) ⟨by simp only;omega,by simp;omega,q⟩
      · obtain⟨f,o,c⟩:=e
        simp only[f8,g4,f2,gh,if_false,bD (show s.2.length+[(⟨u.2.2,u.2.1⟩:aR)].length≤4294967296 by simp;omega),gf,g6,bI]
        exact x (u.1,s.2++[⟨u.2.2,u.2.1⟩]) ⟨by simp only[ha] at f ⊢;omega,by simp;omega,c⟩
    exact key s.1 MB i3
  · simp only[dV,g2,gh,if_false];rfl
def tA (d:bo) (n:bO) (nx:Int):List aw→List aw→aI→aI
  | _,[],m=>m
  | done,x :: t,m=>tA d n nx (done++[x]) t (zg d n m ⟨done++[x],nx⟩ x.Id)
theorem FG {d:bo} {n:bO} {nx:Int} (a:n.Chains.length=d.Rules.length):∀ (rest done:List aw) (m:aI),done.length+rest.length≤40→sj d n done.length m→sj d n (done.length+rest.length) (tA d n nx done rest m)
  | [],done,m,_,h=>h
  | x :: t,done,m,b,h=>by
    simp only[gx] at b
    have h1:=vp (s:=⟨done++[x],nx⟩) (id:=x.Id) MB (by simp;omega) a h
    have:=FG (nx:=nx) a t (done++[x]) _ (by simp;omega) (by simpa using h1)
    unfold tA
    simpa[Nat.add_assoc,Nat.add_comm 1] using this
theorem BY {N:Nat} (c:1099000000000≤N) (d:bo) (s:ag) (e:lh d=true) (f:uM d) (l:s.Items.length≤40) (g:∀ x∈s.Items,x.F.Fields.length≤1048576):∀ (rest done:List aw) (k:Nat) (m:aI),rest.length < k→s.Items=done++rest→sj d (cc d) done.length m →
    gZ N d s (cc d) k m.Alphas m.Rules (done.length:Int)=some (tA d (cc d) s.Next done rest m)∧hU N d (cc d) s k m.Alphas m.Rules (done.length:Int)=some (tA d (cc d) s.Next done rest m)
  | [],done,k,m,hk,a,h=>by
    obtain⟨k,rfl⟩:∃ j,k=j+1:=⟨k - 1,by simp at hk;omega⟩
    have c1:decide ((done.length:Int) < (s.Items.length:Int))=false:=decide_eq_false (by rw[a];simp)
    simp only[gZ,hU,c1,gh,if_false,tA,and_self]
  | x :: t,done,k,m,hk,a,h=>by
    obtain⟨k,rfl⟩:∃ j,k=j+1:=⟨k - 1,MB⟩
    simp only[gx] at hk
    have q:s.Items.length=done.length+(t.length+1):=by rw[a];simp
    have c1:decide ((done.length:Int) < (s.Items.length:Int))=true:=decide_eq_true MB
    have n:idx s.Items (done.length:Int)=some x:=by rw[a];exact dI _ _ _
    have o:ssl s.Items 0 ((done.length+1:Nat):Int)=some (done++[x]):=by
      rw[Bc MB,a]
      congr 1
      rw[show done++x :: t=(done++[x])++t by simp,List.take_left' MC]
    have ok:=xm (s:=⟨done++[x],s.Next⟩) (id:=x.Id) e f (by simp;omega) (fun y b=>g y (by rw[a];simp at b ⊢;rcases b with b | b <;> simp[b])) MB h
    have p:(cc d).Chains.length=d.Rules.length:=(rf (te e)).2.1.len
    have h1:=vp (s:=⟨done++[x],s.Next⟩) (id:=x.Id) MB (by simp;omega) p h
    have i:=BY c d s e f l g t (done++[x]) k (zg d (cc d) m ⟨done++[x],s.Next⟩ x.Id) MB (by rw[a];simp) (by simpa using h1)
    simp only[hd,gx,ha,ht] at i
    simp only[gZ,hU,c1,if_true,n,o,gf,wr1 done.length MB,KZ c d (cc d) _ _ x.Id ok.ok,Jd c d (cc d) _ _ x.Id ok]
    exact i
def yG (g:List Int→Bool) (r a:List Int):List (List Int):=(a.map fun y=>r++[y]).filter g
def C0 (g:List Int→Bool) (id:Int) (before fresh:List (List Int)) (A:List Int):List (List Int):=before.flatMap (fun r=>yG g r [id])++fresh.flatMap (fun r=>yG g r A)
structure Has (p:List Int→Bool) (k:Nat) (L:List (List Int)):Prop where
  nd:L.Nodup
  iff:∀ r,r∈L↔r.length=k∧p r=true
theorem nG {g:List Int→Bool} {r b q:List Int}:q∈yG g r b↔∃ y∈b,q=r++[y]∧g q=true:=by
  unfold yG
  rw[ry,hQ]
  constructor
  · rintro⟨⟨y,a,rfl⟩,h⟩;exact⟨y,a,rfl,h⟩
  · rintro⟨y,a,rfl,h⟩;exact⟨⟨y,a,rfl⟩,h⟩
theorem Da {g:List Int→Bool} {r c:List Int} (h:c.Nodup):(yG g r c).Nodup:=by
  unfold yG
  refine List.Pairwise.filter _ (List.Pairwise.map _ (fun a b d e=>d ?_) h)
  simpa using e
theorem wc {g:List Int→Bool} {c:List Int} (d:c.Nodup) {L:List (List Int)} (h:L.Nodup):(L.flatMap fun r=>yG g r c).Nodup:=by
  unfold List.Nodup
  rw[List.pairwise_flatMap]
  refine⟨fun r _=>Da d,h.imp fun {a b} f q i k j e=>f ?_⟩
  obtain⟨y,_,rfl,_⟩:=nG.1 i
  obtain⟨l,_,rfl,_⟩:=nG.1 j
  exact (List.append_inj' e rfl).1
structure Ca (g g':List Int→Bool) (id:Int) (A:Nat→List Int) (K:Nat):Prop where
  old:∀ r,g r=true→id ∉ r∧g' r=true
  new:∀ r,g' r=true→id ∉ r→g r=true
  pre:∀ r y,g' (r++[y])=true→g' r=true
  inA:∀ r y,r.length < K→g' (r++[y])=true→y∈A r.length
  nd:∀ k,k < K→(A k).Nodup
theorem FO {g g':List Int→Bool} {id:Int} {A:Nat→List Int} {K k:Nat} (H:Ca g g' id A K) (hk:k < K) {B F:List (List Int)} (i:Has g k B) (j:Has (fun r=>g' r && decide (id∈r)) k F) :
    Has (fun r=>g' r && decide (id∈r)) (k+1) (C0 g' id B F (A k)):=by
  refine⟨?_,fun r=>?_⟩
  · unfold C0
    rw[oi]
    refine⟨wc MC i.nd,wc (H.nd k hk) j.nd,fun a t b w e=>?_⟩
    subst e
    obtain⟨x,c,h1⟩:=j5.1 t
    obtain⟨y,d,z⟩:=j5.1 w
    obtain⟨u,_,rfl,_⟩:=nG.1 h1
    obtain⟨v,_,e,_⟩:=nG.1 z
    obtain⟨rfl,-⟩:=List.append_inj' e rfl
    have C:=((i.iff x).1 c).2
    have p:=((j.iff x).1 d).2
    simp only[gI,decide_eq_true_eq] at p
    exact (H.old x C).1 p.2
  · unfold C0
    rw[gb,j5,j5]
    simp only[gI,decide_eq_true_eq]
    constructor
    · rintro (⟨x,c,h⟩ | ⟨x,c,h⟩)
      · obtain⟨y,d,rfl,h1⟩:=nG.1 h
        have:=(i.iff x).1 c
        refine⟨by simp[this.1],h1,?_⟩
        simp at d;simp[d]
      · obtain⟨y,d,rfl,h1⟩:=nG.1 h
        have:=(j.iff x).1 c
        simp only[gI,decide_eq_true_eq] at this
        exact⟨by simp[this.1],h1,by simp[this.2.2]⟩
    · rintro⟨l,f,m⟩
      rcases MM r with rfl | ⟨q,y,rfl⟩
      · simp at l
      · rw[MN] at l f m ⊢
        have n:q.length=k:=by simpa using l
        have s:=H.pre q y f
        by_cases o:id∈q
        · right
          refine⟨q,(j.iff q).2 ⟨n,by simp[s,o]⟩,nG.2 ⟨y,?_,rfl,f⟩⟩
          have:=H.inA q y MB f
          rwa [n] at this
        · left
          refine⟨q,(i.iff q).2 ⟨n,H.new q s o⟩,nG.2 ⟨y,?_,rfl,f⟩⟩
          simp only[gb,o,false_or,hZ] at m
          simp[m]
theorem Ew {g g':List Int→Bool} {id:Int} {A:Nat→List Int} {K k:Nat} (H:Ca g g' id A K) {L M:List (List Int)} (d:Has g k L) (f:Has (fun r=>g' r && decide (id∈r)) k M):Has g' k (L++M):=by
  refine⟨?_,fun r=>?_⟩
  · rw[oi]
    refine⟨d.nd,f.nd,fun a i b j e=>?_⟩
    subst e
    have h1:=((d.iff a).1 i).2
    have c:=((f.iff a).1 j).2
    simp only[gI,decide_eq_true_eq] at c
    exact (H.old a h1).1 c.2
  · rw[gb,d.iff,f.iff]
    simp only[gI,decide_eq_true_eq]
    constructor
    · rintro (⟨h1,c⟩ | ⟨h1,c,_⟩)
      · exact⟨h1,(H.old r c).2⟩
      · exact⟨h1,c⟩
    · rintro⟨h1,c⟩
      by_cases h:id∈r
      · exact .inr ⟨h1,c,h⟩
      · exact .inl ⟨h1,H.new r c h⟩
def wa (g:List Int→Bool) (id:Int) (A:Nat→List Int):Nat→List (List (List Int))→List (List Int)→List (List Int)→List (List (List Int))
  | _,[],_,_=>[]
  | k,L :: Ls,B,F=>(L++C0 g id B F (A k)) :: wa g id A (k+1) Ls L (C0 g id B F (A k))
theorem zF {g g':List Int→Bool} {id:Int} {A:Nat→List Int} {K:Nat} (H:Ca g g' id A K):∀ (Ls:List (List (List Int))) (k:Nat) (B F:List (List Int)),k+Ls.length≤K→Has g k B→Has (fun r=>g' r && decide (id∈r)) k F→(∀ i L,Ls[i]?=some L→Has g (k+1+i) L) →
    ∀ i L,(wa g' id A k Ls B F)[i]?=some L→Has g' (k+1+i) L
  | [],k,B,F,_,_,_,_,i,L,h=>by simp[wa] at h
  | L :: Ls,k,B,F,c,d,e,a,i,M,h=>by
    rw[gx] at c
    have hm:=FO H MB d e
    have b:Has g (k+1) L:=by simpa using a 0 L rfl
    cases i with
    | zero=>
      simp only[wa,zx,Option.some.injEq] at h
      subst h
      exact Ew H b hm
    | succ i=>
      simp only[wa,MO] at h
      have:=zF H Ls (k+1) L _ MB b hm (fun j N f=>by
        have:=a (j+1) N (by simpa using f)
        rwa [show k+1+(j+1)=k+1+1+j by omega] at this) i M h
      rwa [show k+1+(i+1)=k+1+1+i by omega]
theorem EQ {g g':List Int→Bool} {id:Int} {A:Nat→List Int} {K:Nat} (H:Ca g g' id A K) (a:g []=true) {Ls:List (List (List Int))} (d:Ls.length≤K) (b:∀ i L,Ls[i]?=some L→Has g (i+1) L):∀ i L,(wa g' id A 0 Ls [[]] [])[i]?=some L→Has g' (i+1) L:=by
  intro i L h
  have:=zF H Ls 0 [[]] [] MB ⟨MC,fun r=>by
    constructor
    · intro h;simp at h;subst h;exact⟨rfl,a⟩
    · rintro⟨h,_⟩;simp[rv.1 h]⟩ ⟨MC,fun r=>by
    constructor
    · intro h;cases h
    · rintro⟨h,h1⟩;have:=rv.1 h;subst this;simp at h1⟩ (fun j N c=>by
      have:=b j N c
      rwa [show 0+1+j=j+1 by omega]) i L h
  rwa [show i+1=0+1+i by omega]
theorem yq {xs:List aw} {v:Int} (h:∀ y∈xs,y.Id≠v):aK xs v=(Ct,false):=by
  unfold aK
  rw[MD.2 fun y a=>by simpa using h y a]
theorem CH {xs:List aw} {x:aw} {v:Int} (h:v≠x.Id):aK (xs++[x]) v=aK xs v:=by
  unfold aK
  rw[List.find?_append,List.find?_cons_of_neg (by simpa using fun e:x.Id=v=>h e.symm),List.find?_nil,Option.or_none]
theorem CO {xs:List aw} {x:aw} (h:∀ y∈xs,y.Id≠x.Id):aK (xs++[x]) x.Id=(x.F,true):=by
  unfold aK
  rw[List.find?_append,MD.2 fun y a=>by simpa using h y a]
  simp
theorem BD {xs:List aw} {v:Int} (h:(aK xs v).2=true):∃ x∈xs,x.Id=v∧aK xs v=(x.F,true):=by
  unfold aK at h ⊢
  split at h
  · rename_i x a
    exact⟨x,MP a,by simpa using List.find?_some a,rfl⟩
  · cases h
theorem mg {xs:List aw}:∀ (ps:List au) (ids:List Int) (l:List aq),(df xs ps ids l).2=true→∀ v∈ids,(aK xs v).2=true
  | [],[],l,h,v,a=>by cases a
  | [],u :: ids,l,h,v,a=>by cases h
  | p :: ps,[],l,h,v,a=>by cases a
  | p :: ps,u :: ids,l,h,v,a=>by
    unfold df at h
    split at h
    · rename_i c
      rcases hC.1 a with rfl | a
      · exact c.1
      · exact mg ps ids _ h v a
    · cases h
theorem va {xs a:List aw}:∀ (ps:List au) (ids:List Int) (l:List aq),(∀ v∈ids,aK xs v=aK a v)→df xs ps ids l=df a ps ids l
  | [],[],l,h=>rfl
  | [],u :: ids,l,h=>rfl
  | p :: ps,[],l,h=>rfl
  | p :: ps,u :: ids,l,h=>by
    unfold df
    rw[h u MC,va ps ids _ fun v b=>h v (by simp[b])]
theorem y8 {xs:List aw} {y:Int}:∀ (ps:List au) (row:List Int) (l:List aq),(df xs (ps.take (row.length+1)) (row++[y]) l).2=true→(df xs (ps.take row.length) row l).2=true
  | [],row,l,h=>by cases row <;> simp[df] at h
  | p :: ps,[],l,h=>by simp[df]
  | p :: ps,v :: row,l,h=>by
    simp only[gx,List.take_succ_cons,hW,df] at h ⊢
    split at h
    · rename_i c
      rw[if_pos c]
      exact y8 ps row _ h
    · cases h
def okR (xs:List aw) (ps:List au) (r:List Int):Bool:=(okB xs ps r).2
theorem AX {xs:List aw} {ps:List au} {x:aw} {r:List Int} (h:x.Id ∉ r):okB (xs++[x]) ps r=okB xs ps r:=by
  unfold okB
  exact va _ _ _ fun v a=>CH fun e=>h (e ▸ a)
theorem Gr {xs:List aw} {ps:List au} {x:aw} {A:Nat→List Int} (b:∀ y∈xs,y.Id≠x.Id)
    (c:∀ k p,ps[k]?=some p→∀ y∈xs++[x],fH (bb p) y.F=true→y.Id∈A k) (d:∀ k,k < ps.length→(A k).Nodup):Ca (okR xs ps) (okR (xs++[x]) ps) x.Id A ps.length:=by
  have key:∀ r,okR xs ps r=true→x.Id ∉ r:=fun r h hm=>by
    have:=mg _ _ _ h x.Id hm
    rw[yq b] at this
    cases this
  refine⟨fun r h=>?_,fun r h hm=>?_,fun r y h=>?_,fun r y i h=>?_,d⟩
  · have hk:=key r h
    exact⟨hk,by unfold okR;rw[AX hk];exact h⟩
  · unfold okR at h ⊢
    rwa [AX hm] at h
  · unfold okR okB at h ⊢
    rw[hd,gx,ha,ht] at h
    exact y8 ps r [] h
  · have f:=mg _ _ _ h y MC
    unfold okR okB at h
    rw[hd,gx,ha,ht] at h
    obtain⟨p,hp,a⟩:=sB ps r [] h
    obtain⟨z,g,rfl,e⟩:=BD f
    rw[e] at a
    exact c _ p hp z g a
def jE (l:List ah):List (List Int):=l.map (·.Ids)
theorem ug {xs:List aw} {ps ns:List au} (row:List Int):∀ (ids:List Int),jE (fM xs ps ns row ids)=yG (okR xs ps) row ids
  | []=>rfl
  | v :: ids=>by
    have a:=ug (xs:=xs) (ps:=ps) (ns:=ns) row ids
    unfold fM jE yG at *
    rw[jf,px,a,hS,k0]
    unfold nh
    by_cases h:(okB xs ps (row++[v])).2=true
    · rw[if_pos h,if_pos (show okR xs ps (row++[v])=true from h)];rfl
    · rw[if_neg h,if_neg (show ¬ okR xs ps (row++[v])=true from h)];rfl
theorem rF {xs:List aw} {ps ns:List au} (ids:List Int):∀ (B:List ah),jE (B.flatMap fun t=>fM xs ps ns t.Ids ids)=(jE B).flatMap fun r=>yG (okR xs ps) r ids
  | []=>rfl
  | t :: B=>by
    have a:=rF (xs:=xs) (ps:=ps) (ns:=ns) ids B
    have h1:=ug (xs:=xs) (ps:=ps) (ns:=ns) t.Ids ids
    unfold jE at *
    rw[jf,px,a,h1,hS,jf]
theorem CW {xs:List aw} {ps ns:List au} {id:Int} {k:Nat} {B F:List ah} {A:List Int} {a b:List (List Int)} (d:k=0→a=[[]]∧b=[]) (hk:k≠0→a=jE B∧b=jE F):jE (iA xs ps ns id k B F A)=C0 (okR xs ps) id a b A:=by
  unfold iA C0
  by_cases c:k=0
  · obtain⟨rfl,rfl⟩:=d c
    rw[if_pos c,ug]
    simp
  · obtain⟨rfl,rfl⟩:=hk c
    rw[if_neg c]
    have h1:=rF (xs:=xs) (ps:=ps) (ns:=ns) [id] B
    have e:=rF (xs:=xs) (ps:=ps) (ns:=ns) A F
    unfold jE at *
    rw[px,h1,e]
theorem xu {xs:List aw} {ps ns:List au} {id:Int} {A:Nat→List Int}:∀ (Ls:List ao) (k:Nat) (B F:List ah) (a b:List (List Int)),(k=0→a=[[]]∧b=[])→(k≠0→a=jE B∧b=jE F)→(lm xs ps ns id A k Ls B F).map (fun L=>jE L.Toks)=wa (okR xs ps) id A k (Ls.map fun L=>jE L.Toks) a b
  | [],k,B,F,a,b,c,hk=>rfl
  | L :: Ls,k,B,F,a,b,c,hk=>by
    have hm:=CW (xs:=xs) (ps:=ps) (ns:=ns) (id:=id) (A:=A k) c hk
    have d:=xu (xs:=xs) (ps:=ps) (ns:=ns) (id:=id) (A:=A) Ls (k+1) L.Toks (iA xs ps ns id k B F (A k)) (jE L.Toks) (C0 (okR xs ps) id a b (A k)) (fun e=>by omega) (fun _=>⟨rfl,hm.symm⟩)
    unfold lm
    rw[hS,hS,d,wa]
    congr 1
    unfold jE at *
    rw[px,hm]
def qy (xs:List aw) (ps ns:List au) (k:Nat) (r:List Int):List Int:=if k+1=ps.length then gD xs ns (okB xs ps r).1 else []
theorem uk {xs:List aw} {ps ns:List au} {row ids:List Int}:∀ t∈fM xs ps ns row ids,t.Hits=qy xs ps ns row.length t.Ids:=by
  intro t a
  unfold fM at a
  obtain⟨v,_,h⟩:=j5.1 a
  unfold nh at h
  split at h
  · simp only[hZ] at h
    subst h
    rfl
  · cases h
theorem Cy {xs:List aw} {ps ns:List au} {id:Int} {k:Nat} {B F:List ah} {A:List Int} (b:∀ t∈B,t.Ids.length=k) (c:∀ t∈F,t.Ids.length=k):∀ t∈iA xs ps ns id k B F A,t.Hits=qy xs ps ns k t.Ids:=by
  intro t a
  unfold iA at a
  split at a
  · rename_i e;subst e;exact uk t a
  · rcases gb.1 a with a | a
    · obtain⟨u,hu,h⟩:=j5.1 a
      have:=uk t h
      rwa [b u hu] at this
    · obtain⟨u,hu,h⟩:=j5.1 a
      have:=uk t h
      rwa [c u hu] at this
theorem xi {xs:List aw} {ps ns:List au} {id:Int} {A:Nat→List Int} (e:xs.length≤1048576):∀ (Ls:List ao) (k:Nat) (B F:List ah),(∀ t∈B,t.Ids.length=k)→(∀ t∈F,t.Ids.length=k)→(∀ i L,Ls[i]?=some L→∀ t∈L.Toks,t.Ids.length=k+i+1∧t.Hits=qy xs ps ns (k+i) t.Ids) →
    ∀ i L,(lm xs ps ns id A k Ls B F)[i]?=some L→∀ t∈L.Toks,t.Hits=qy xs ps ns (k+i) t.Ids
  | [],k,B,F,b,c,d,i,L,h=>by simp[lm] at h
  | M :: Ls,k,B,F,b,c,d,i,L,h=>by
    have hm:=Cy (xs:=xs) (ps:=ps) (ns:=ns) (id:=id) (A:=A k) b c
    have g:=zy (xs:=xs) (ps:=ps) (ns:=ns) (id:=id) (A:=A k) e b c
    have f:=d 0 M rfl
    unfold lm at h
    cases i with
    | zero=>
      simp only[zx,Option.some.injEq] at h
      subst h
      intro t a
      rcases gb.1 a with a | a
      · exact (f t a).2
      · exact hm t a
    | succ i=>
      have:=xi (ps:=ps) (ns:=ns) (id:=id) (A:=A) e Ls (k+1) M.Toks _ (fun t a=>(f t a).1) (fun t a=>(g t a).1) (fun j N l=>by
        have:=d (j+1) N (by simpa using l)
        rwa [show k+(j+1)=k+1+j by omega] at this) i L (by simpa using h)
      rwa [show k+1+i=k+(i+1) by omega] at this
theorem yc {xs:List aw} {x:aw} {l:List aq} (b:xs.length≤1048576):∀ (ns:List au),lI x.F l 1 ns (gD xs ns l)=gD (xs++[x]) ns l
  | []=>rfl
  | p :: ns=>by
    have a:=yc (x:=x) (l:=l) b ns
    have h1:=Af p l xs
    unfold gD at a ⊢
    rw[hS,hS,lI,a]
    congr 1
    unfold yB
    rw[List.countP_append,List.countP_singleton]
    unfold yB at h1
    split
    · rw[wr MB MB];omega
    · simp
def I0 (xs:List aw) (r:ai) (w:aP):Prop:=∀ k L,w.Levels[k]?=some L→Has (okR xs (pos r.Pats)) (k+1) (jE L.Toks)∧∀ t∈L.Toks,t.Hits=qy xs (pos r.Pats) (neg r.Pats) k t.Ids
theorem Has.len {p:List Int→Bool} {k:Nat} {l:List ah} (h:Has p k (jE l)):∀ t∈l,t.Ids.length=k∧p t.Ids=true:=fun t a=>(h.iff t.Ids).1 (hQ.2 ⟨t,a,rfl⟩)
theorem Ci {xs:List aw} {x:aw} {r:ai} {w:aP} (g:xs.length≤1048576) (i:∀ y∈xs,y.Id≠x.Id) (s:w.Levels.length=(pos r.Pats).length) (h:I0 xs r w) :
    ∀ k L,(fN (xs++[x]) (pos r.Pats) (neg r.Pats) x.F 1 w).Levels[k]?=some L→Has (okR xs (pos r.Pats)) (k+1) (jE L.Toks)∧∀ t∈L.Toks,t.Hits=qy (xs++[x]) (pos r.Pats) (neg r.Pats) k t.Ids:=by
  have key:∀ q,okR xs (pos r.Pats) q=true→okB (xs++[x]) (pos r.Pats) q=okB xs (pos r.Pats) q:=fun q j=>AX fun hm=>by
    have:=mg _ _ _ j x.Id hm
    rw[yq i] at this
    cases this
  have l:∀ k L,w.Levels[k]?=some L→k≠w.Levels.length - 1→Has (okR xs (pos r.Pats)) (k+1) (jE L.Toks)∧∀ t∈L.Toks,t.Hits=qy (xs++[x]) (pos r.Pats) (neg r.Pats) k t.Ids:=fun k L a hk=>by
    obtain⟨h1,c⟩:=h k L a
    refine⟨h1,fun t b=>?_⟩
    have:=(hn.1 a).1
    rw[c t b]
    unfold qy
    rw[if_neg MB,if_neg MB]
  intro k L a
  unfold fN at a
  split at a
  · rename_i M d
    simp only at a
    rw[List.getElem?_set] at a
    split at a
    · rename_i e
      split at a
      · simp only[Option.some.injEq] at a
        subst a
        subst e
        obtain⟨h1,c⟩:=h _ M d
        have v:=(hn.1 d).1
        refine⟨?_,fun t b=>?_⟩
        · unfold jE at h1 ⊢
          rw[vF];exact h1
        · simp only at b
          unfold jV at b
          obtain⟨u,hu,rfl⟩:=hQ.1 b
          have m:=c u hu
          have f:=(Has.len h1 u hu).2
          have hk:=key _ f
          have n:(okB (xs++[x]) (pos r.Pats) u.Ids).2=true:=by rw[hk];exact f
          rw[if_pos n]
          simp only
          rw[m,hk]
          unfold qy
          rw[if_pos MB,if_pos MB,yc g,hk]
      · cases a
    · rename_i e
      exact l k L a fun o=>e o.symm
  · rename_i p
    have:=List.getElem?_eq_none_iff.1 p
    have:=(hn.1 a).1
    omega
theorem Io {xs:List aw} {x:aw} {as:List bm} {r:ai} {c:aR} {w:aP} (u:xs.length+1≤1048576) (d:∀ y∈xs,y.Id≠x.Id) (f:w.Levels.length=(pos r.Pats).length)
    (g:∀ k p,(pos r.Pats)[k]?=some p→ue as c k=((xs++[x]).filter fun y=>fH (bb p) y.F).map (·.Id)) (l:((xs++[x]).map (·.Id)).Nodup) (h:I0 xs r w):I0 (xs++[x]) r (oL (xs++[x]) as x.F x.Id r c w):=by
  have j:=Ci (x:=x) MB d f h
  have hlen:(fN (xs++[x]) (pos r.Pats) (neg r.Pats) x.F 1 w).Levels.length=w.Levels.length:=by unfold fN;split <;> simp
  have G:=Gr (xs:=xs) (ps:=pos r.Pats) (x:=x) (A:=ue as c) d
    (fun k p hp y m n=>by rw[g k p hp];exact hQ.2 ⟨y,ry.2 ⟨m,n⟩,rfl⟩)
    (fun k hk=>by
      rw[g k _ (hh hk)]
      exact List.Nodup.sublist (List.Sublist.map _ (List.filter_sublist)) l)
  have o:okR xs (pos r.Pats) []=true:=by unfold okR okB;simp[df]
  have e:=xu (xs:=xs++[x]) (ps:=pos r.Pats) (ns:=neg r.Pats) (id:=x.Id) (A:=ue as c) (fN (xs++[x]) (pos r.Pats) (neg r.Pats) x.F 1 w).Levels 0 [] [] [[]] [] (fun _=>⟨rfl,rfl⟩) (fun e=>absurd rfl e)
  have q:=EQ G o (Ls:=(fN (xs++[x]) (pos r.Pats) (neg r.Pats) x.F 1 w).Levels.map fun L=>jE L.Toks) (by rw[Cl,hlen,f];exact Nat.le_refl _) (fun i L a=>by
    rw[p4,vy] at a
    obtain⟨M,b,rfl⟩:=a
    exact (j i M b).1)
  intro k L a
  refine⟨q k _ ?_,?_⟩
  · rw[← e,p4]
    unfold oL at a
    rw[show (lm (xs++[x]) (pos r.Pats) (neg r.Pats) x.Id (ue as c) 0 (fN (xs++[x]) (pos r.Pats) (neg r.Pats) x.F 1 w).Levels [] [])[k]?=some L from a]
    rfl
  · have:=xi (xs:=xs++[x]) (ps:=pos r.Pats) (ns:=neg r.Pats) (id:=x.Id) (A:=ue as c) (by simp;omega) (fN (xs++[x]) (pos r.Pats) (neg r.Pats) x.F 1 w).Levels 0 [] [] MC MC (fun i M b t hm=>by
      obtain⟨h1,s⟩:=j i M b
      rw[ht]
      exact⟨(Has.len h1 t hm).1,s t hm⟩) k L a
    rwa [ht] at this
def uG (n:bO) (xs:List aw):List bm:=n.Alphas.map fun a=>⟨(xs.filter fun x=>fH a x.F).map (·.Id)⟩
theorem zI {x:aw} {xs:List aw}:∀ (as:List ax),cF x.F x.Id as (as.map fun a=>⟨(xs.filter fun x=>fH a x.F).map (·.Id)⟩)=as.map fun a=>⟨((xs++[x]).filter fun x=>fH a x.F).map (·.Id)⟩
  | []=>rfl
  | a :: as=>by
    rw[hS,hS,cF,zI as]
    congr 1
    rw[List.filter_append,k0]
    cases fH a x.F <;> simp
structure Ez (d:bo) (n:bO) (xs:List aw) (m:aI):Prop where
  al:m.Alphas=uG n xs
  rows:∀ (i:Nat) (r:ai) (w:aP),d.Rules[i]?=some r→m.Rules[i]?=some w→I0 xs r w
theorem Jv {d:bo} {n:bO} {m:aI} {xs:List aw} {x:aw} {nx:Int} {j:Nat} (C:xs.length+1≤1048576) (b:((xs++[x]).map (·.Id)).Nodup) (q:Ats n.Alphas n.Chains d.Rules) (f:sj d n j m) (h:Ez d n xs m):Ez d n (xs++[x]) (zg d n m ⟨xs++[x],nx⟩ x.Id):=by
  have s:∀ y∈xs,y.Id≠x.Id:=fun y D e=>by
    rw[px,oi] at b
    exact b.2.2 y.Id (hQ.2 ⟨y,D,rfl⟩) x.Id MC e
  have t:=CO s
  have u:cF x.F x.Id n.Alphas m.Alphas=uG n (xs++[x]):=by rw[h.al];exact zI n.Alphas
  have E:=ur (g:=oL (xs++[x]) (cF x.F x.Id n.Alphas m.Alphas) x.F x.Id) d.Rules n.Chains m.Rules f.lr.symm (by rw[q.len,f.lr])
  refine⟨?_,fun i r v a l=>?_⟩
  · unfold zg
    simp only[t]
    exact u
  · unfold zg at l
    simp only[t] at l
    obtain⟨O,c,w,z,a2,a3,rfl⟩:=E.2 i v l
    rw[a] at z
    cases z
    refine Io C s (f.rows i r w a a3).1 (fun k p hp=>?_) b (h.rows i r w a a3)
    obtain⟨F,G⟩:=hn.1 a
    obtain⟨H,I⟩:=hn.1 a2
    have o:=(q.get i H F).1
    rw[I,G] at o
    obtain⟨A,K⟩:=hn.1 hp
    have B:k < c.Pos.length:=by rw[o.len];exact A
    have L:=o.get k B A
    obtain⟨a0,_,M⟩:=aa L
    have N:idx (cF x.F x.Id n.Alphas m.Alphas) c.Pos[k]=some ⟨((xs++[x]).filter fun y=>fH (bb p) y.F).map (·.Id)⟩:=by
      rw[u]
      unfold idx uG
      rw[if_pos a0,p4,M,← K]
      rfl
    exact (vY (an B) N).symm
def cmp (a b:Int):Int:=if a < b then -1 else if b < a then 1 else 0
theorem K0 (N:Nat) (a b:Int):gY N a b=some (cmp a b):=by
  unfold gY jd cmp
  by_cases h1:a < b
  · simp[h1]
  · by_cases c:b < a <;> simp[h1,c]
theorem L6 {N:Nat} (i:1048578≤N) (a b:Int):lU N [a,b]=some (if a=0 then b else a):=by
  obtain⟨n,rfl⟩:∃ n,N=n+3:=⟨N - 3,MB⟩
  unfold lU
  have d:IntKind.i64.wrap ((0:Int)+1)=1:=by decide
  have e:IntKind.i64.wrap ((1:Int)+1)=2:=by decide
  have i0:idx [a,b] 0=some a:=rfl
  have f:idx [a,b] 1=some b:=rfl
  have g:(([a,b]:List Int).length:Int)=2:=rfl
  simp only[gQ,d,e,i0,f,g,gf]
  by_cases c:a=0
  · by_cases h:b=0 <;> simp[c,h]
  · simp[c]
def lT:List Int→List Int→Int
  | [],[]=>0
  | [],_ :: _=>-1
  | _ :: _,[]=>1
  | a :: x,b :: y=>if a=b then lT x y else if a < b then -1 else 1
theorem yv:∀ x y,lT y x = - lT x y
  | [],[]=>rfl
  | [],_ :: _=>rfl
  | _ :: _,[]=>rfl
  | a :: x,b :: y=>by
    unfold lT
    by_cases h:a=b
    · rw[if_pos h,if_pos h.symm,yv x y]
    · rw[if_neg h,if_neg fun e=>h e.symm]
      by_cases c:a < b
      · rw[if_pos c,if_neg MB];rfl
      · rw[if_neg c,if_pos MB]
theorem oE:∀ x y,lT x y=0↔x=y
  | [],[]=>by simp[lT]
  | [],_ :: _=>by simp[lT]
  | _ :: _,[]=>by simp[lT]
  | a :: x,b :: y=>by
    unfold lT
    by_cases h:a=b
    · rw[if_pos h,oE x y,h];simp
    · rw[if_neg h]
      by_cases c:a < b
      · rw[if_pos c];simp[h]
      · rw[if_neg c];simp[h]
theorem AT:∀ x y z,lT x y < 0→lT y z < 0→lT x z < 0
  | [],[],z,h,_=>absurd h (by simp[lT])
  | [],_ :: _,[],_,h=>absurd h (by simp[lT])
  | [],_ :: _,_ :: _,_,_=>by simp[lT]
  | _ :: _,[],_,h,_=>absurd h (by simp[lT])
  | _ :: _,_ :: _,[],_,h=>absurd h (by simp[lT])
  | a :: x,b :: y,d :: z,h1,c=>by
    unfold lT at h1 c ⊢
    by_cases f:a=b
    · rw[if_pos f] at h1
      subst f
      by_cases e:a=d
      · rw[if_pos e] at c ⊢
        exact AT x y z h1 c
      · rw[if_neg e] at c ⊢;exact c
    · rw[if_neg f] at h1
      have:a < b:=by
        by_cases h:a < b
        · exact h
        · rw[if_neg h] at h1;simp at h1
      by_cases e:b=d
      · subst e
        rw[if_neg f,if_pos this];decide
      · rw[if_neg e] at c
        have g:b < d:=by
          by_cases h:b < d
          · exact h
          · rw[if_neg h] at c;simp at c
        rw[if_neg MB,if_pos MB];decide
def iU {α β:Type} (p:α→β→Bool):List α→List β→Bool
  | [],[]=>true
  | a :: l,b :: m=>p a b && iU p l m
  | _,_=>false
theorem pF {α β:Type} {p:α→β→Bool}:∀ {l:List α} {m:List β},iU p l m=true→l.length=m.length
  | [],[],_=>rfl
  | a :: l,b :: m,h=>by
    simp only[iU,gI] at h
    simp[pF h.2]
  | [],_ :: _,h=>by cases h
  | _ :: _,[],h=>by cases h
theorem lp2 {α β e:Type} (f:Nat→Int→Option e) (a:List α) (b:List β) (k:a.length=b.length) (hm:a.length≤4294967296) (p:α→β→Bool) (K Z:Option e)
    (g:∀ n (i:Nat) (x:α) (y:β),idx a (i:Int)=some x→idx b (i:Int)=some y→x∈a→y∈b→decide ((i:Int) < (a.length:Int))=true→IntKind.i64.wrap ((i:Int)+1)=((i+1:Nat):Int)→f (n+1) i=if p x y=true then f n ((i+1:Nat):Int) else Z)
    (he:∀ n (i:Nat),decide ((i:Int) < (a.length:Int))=false→i=a.length→f (n+1) i=K) :
    ∀ (n i:Nat),i≤a.length→a.length - i < n→f n i=if iU p (a.drop i) (b.drop i)=true then K else Z:=by
  intro n
  induction n with
  | zero=>intro i _ h;omega
  | succ n j=>
    intro i l m
    by_cases c:i < a.length
    · have d:i < b.length:=by omega
      rw[g n i _ _ (an c) (an d) (hz c) (hz d) (decide_eq_true MB) (wr1 i MB),j (i+1) MB MB,ho c,ho d,iU]
      cases p a[i] b[i] <;> simp
    · rw[he n i (decide_eq_false MB) MB,hy MB,hy MB]
      simp[iU]
theorem Dn {N:Nat} (x y:List Int) (hm:x.length≤1099000000000):∀ n i:Nat,i≤x.length→i≤y.length→x.length - i < n→cg N x y n i=some (lT (x.drop i) (y.drop i)):=by
  intro n
  induction n with
  | zero=>intro i _ _ h;omega
  | succ n d=>
    intro i e f g
    simp only[cg]
    by_cases b:i < x.length
    · have c1:decide ((i:Int) < (x.length:Int))=true:=decide_eq_true MB
      rw[ho b]
      by_cases a:i < y.length
      · have c2:decide ((y.length:Int)≤(i:Int))=false:=decide_eq_false MB
        rw[ho a,lT]
        simp only[c1,c2,if_true,gh,if_false,an b,an a,gf,K0,wr1 i MB]
        by_cases he:x[i]=y[i]
        · have c:cmp y[i] y[i]=0:=by unfold cmp;simp
          simp only[c,he,decide_true,hA,gh,if_false,if_true]
          exact d (i+1) MB MB MB
        · have c:cmp x[i] y[i]≠0:=by unfold cmp;split <;> (try split) <;> omega
          simp only[c,he,decide_false,hG,if_true,if_false]
          unfold cmp
          split
          · rfl
          · rw[if_pos MB]
      · have c2:decide ((y.length:Int)≤(i:Int))=true:=decide_eq_true MB
        rw[hy (show y.length≤i by omega)]
        simp only[c1,c2,if_true,an b,gf,lT]
    · have c1:decide ((i:Int) < (x.length:Int))=false:=decide_eq_false MB
      simp only[c1,gh,if_false]
      rw[hy (show x.length≤i by omega)]
      by_cases a:i < y.length
      · have c2:decide ((x.length:Int) < (y.length:Int))=true:=decide_eq_true MB
        rw[ho a,c2];rfl
      · have c2:decide ((x.length:Int) < (y.length:Int))=false:=decide_eq_false MB
        rw[hy (show y.length≤i by omega),c2];rfl
def fA (a b:ah):Int:=if lT a.Ids b.Ids=0 then lT a.Hits b.Hits else lT a.Ids b.Ids
theorem pZ {a b:ah}:fA a b=0↔a=b:=by
  unfold fA
  by_cases h:lT a.Ids b.Ids=0
  · rw[if_pos h,oE]
    have:=(oE _ _).1 h
    constructor
    · intro e;cases a;cases b;simp_all
    · rintro rfl;rfl
  · rw[if_neg h]
    exact⟨fun e=>absurd e h,fun e=>by rw[e] at h;exact absurd ((oE _ _).2 rfl) h⟩
theorem CK (a b:ah):fA b a = - fA a b:=by
  unfold fA
  rw[yv a.Ids b.Ids,yv a.Hits b.Hits]
  by_cases h:lT a.Ids b.Ids=0
  · rw[if_pos h,if_pos MB]
  · rw[if_neg h,if_neg MB]
theorem qe:xM fA:=by
  refine⟨fun x=>?_,fun x y z h1 a=>?_,fun x y h1 a=>?_⟩
  · rw[pZ.2 rfl];decide
  · unfold fA at h1 a ⊢
    by_cases c:lT x.Ids y.Ids=0
    · rw[if_pos c] at h1
      have d:=(oE _ _).1 c
      rw[d]
      by_cases b:lT y.Ids z.Ids=0
      · rw[if_pos b] at a ⊢
        exact AT _ _ _ h1 a
      · rw[if_neg b] at a ⊢;exact a
    · rw[if_neg c] at h1
      by_cases b:lT y.Ids z.Ids=0
      · rw[← (oE _ _).1 b,if_neg c];exact h1
      · rw[if_neg b] at a
        have:=AT _ _ _ h1 a
        rw[if_neg MB];exact this
  · rw[CK x y] at a
    exact pZ.1 MB
def yy (t:ah):Prop:=t.Ids.length≤4294967296∧t.Hits.length≤4294967296
theorem qG {N:Nat} (e:1099000000000≤N) (a b:ah) (c:yy a):cE N a b=some (fA a b):=by
  unfold cE eF fA
  have h1:=Dn (N:=N) a.Ids b.Ids (by have:=c.1;omega) N 0 MB MB (by have:=c.1;omega)
  have d:=Dn (N:=N) a.Hits b.Hits (by have:=c.2;omega) N 0 MB MB (by have:=c.2;omega)
  simp only[hE] at h1 d
  rw[show ((0:Nat):Int)=0 from rfl] at h1 d
  simp only[h1,d,gf,L6 (show 1048578≤N by omega)]
theorem Ds {α:Type} [DecidableEq α]:∀ (l m:List α),l.length=m.length→iU (fun x y=>decide (x=y)) l m=decide (l=m)
  | [],[],_=>by simp[iU]
  | a :: l,b :: m,h=>by
    simp only[iU]
    rw[Ds l m (by simpa using h)]
    by_cases e:a=b <;> simp[e]
  | [],_ :: _,h=>by simp at h
  | _ :: _,[],h=>by simp at h
def o2 (a b:ao):Bool:=decide (a.Toks.Perm b.Toks)
def kv (v w:aP):Bool:=iU o2 v.Levels w.Levels
def w7 (m x:aI):Bool:=iU (fun a b=>decide (a.L=b.L)) m.Alphas x.Alphas && iU kv m.Rules x.Rules
theorem BV {N:Nat} (f:1099000000000≤N) (a b:ao) (g:a.Toks.length≤4294967296) (l:∀ t∈a.Toks,yy t) (o:∀ t∈b.Toks,yy t):ig N a b=some (o2 a b):=by
  unfold ig o2
  by_cases c:a.Toks.length=b.Toks.length
  · have c1:decide ((a.Toks.length:Int)=(b.Toks.length:Int))=true:=decide_eq_true MB
    have p:Bi a.Toks (cE N)=some (srt fA a.Toks):=DQ g qe fun x d y q=>qG f x y (l x d)
    have r:Bi b.Toks (cE N)=some (srt fA b.Toks):=DQ MB qe fun x d y q=>qG f x y (o x d)
    have j:=kF (c:=fA) a.Toks
    have s:=kF (c:=fA) b.Toks
    have m:(srt fA a.Toks).length=(srt fA b.Toks).length:=by rw[j.length_eq,s.length_eq];exact c
    have hm:(srt fA a.Toks).length≤4294967296:=by rw[j.length_eq];exact g
    have k:=lp2 (aL N (srt fA a.Toks) (srt fA b.Toks) (lC N)) (srt fA a.Toks) (srt fA b.Toks) m hm (fun x y=>decide (x=y)) (some true) (some false)
      (fun n i x y g1 g2 g3 g4 g5 g6=>by
        have d:yy x:=l x (j.mem_iff.1 g3)
        simp only[aL,g5,if_true,g1,g2,gf,lC,qG f x y d,g6]
        by_cases e:x=y
        · subst e
          have:fA x x=0:=pZ.2 rfl
          simp[this]
        · have:fA x y≠0:=fun h=>e (pZ.1 h)
          simp[this,e])
      (fun n i g1 g2=>by simp only[aL,g1,gh,if_false]) N 0 MB MB
    simp only[hE,Ds _ _ m] at k
    have c2:decide (((srt fA a.Toks).length:Int)=((srt fA b.Toks).length:Int))=true:=decide_eq_true MB
    simp only[c1,hA,gh,if_false,dS,dY g,dY (show b.Toks.length≤4294967296 by omega),gf,ep,p,r,bS,c2]
    rw[show ((0:Nat):Int)=0 from rfl] at k
    rw[k]
    by_cases hp:a.Toks.Perm b.Toks
    · simp[hp,(DG qe).2 hp]
    · have u : ¬ srt fA a.Toks=srt fA b.Toks:=fun e=>hp ((DG qe).1 e)
      simp[hp,u]
  · have c1:decide ((a.Toks.length:Int)=(b.Toks.length:Int))=false:=decide_eq_false MB
    simp only[c1,hG,if_true]
    rw[decide_eq_false fun h=>c h.length_eq]
def KA (a:ao):Prop:=a.Toks.length≤4294967296∧∀ t∈a.Toks,yy t
def EX (w:aP):Prop:=w.Levels.length≤4294967296∧∀ a∈w.Levels,KA a
def wE (m:aI):Prop:=(m.Alphas.length≤4294967296∧∀ a∈m.Alphas,a.L.length≤4294967296)∧m.Rules.length≤4294967296∧∀ w∈m.Rules,EX w
theorem EO {N:Nat} (d:1099000000000≤N) (v w:aP) (a:EX v) (hw:EX w):ff N v w=some (kv v w):=by
  unfold ff bz kv
  by_cases c:v.Levels.length=w.Levels.length
  · have b:=lp2 (ay N v.Levels w.Levels (ig N)) v.Levels w.Levels c a.1 o2 (some true) (some false)
      (fun n i x y g1 g2 g3 g4 g5 g6=>by
        simp only[ay,g5,if_true,g1,g2,gf,BV d x y (a.2 x g3).1 (a.2 x g3).2 (hw.2 y g4).2,g6]
        cases o2 x y <;> simp)
      (fun n i g1 g2=>by simp only[ay,g1,gh,if_false]) N 0 MB (by have:=a.1;omega)
    simp only[hE] at b
    rw[show ((0:Nat):Int)=0 from rfl] at b
    have c1:decide ((v.Levels.length:Int)=(w.Levels.length:Int))=true:=decide_eq_true MB
    simp only[c1,hA,gh,if_false,b]
    cases iU o2 v.Levels w.Levels <;> rfl
  · have c1:decide ((v.Levels.length:Int)=(w.Levels.length:Int))=false:=decide_eq_false MB
    simp only[c1,hG,if_true,gf]
    cases h:iU o2 v.Levels w.Levels with
    | false=>rfl
    | true=>exact absurd (pF h) c
theorem EG {N:Nat} (f:1099000000000≤N) (m x:aI) (hm:wE m) (g:wE x):nv N m x=some (w7 m x):=by
  unfold nv w7
  have j:bA N m.Alphas x.Alphas (gz N)=some (iU (fun a b=>decide (a.L=b.L)) m.Alphas x.Alphas):=by
    unfold bA
    by_cases c:m.Alphas.length=x.Alphas.length
    · have d:=lp2 (aM N m.Alphas x.Alphas (gz N)) m.Alphas x.Alphas c hm.1.1 (fun a b=>decide (a.L=b.L)) (some true) (some false)
        (fun n i u v g1 g2 g3 g4 g5 g6=>by
          simp only[aM,g5,if_true,g1,g2,gf,gz,Fw f u.L v.L (hm.1.2 u g3),g6]
          by_cases e:u.L=v.L <;> simp[e])
        (fun n i g1 g2=>by simp only[aM,g1,gh,if_false]) N 0 MB (by have:=hm.1.1;omega)
      simp only[hE] at d
      rw[show ((0:Nat):Int)=0 from rfl] at d
      have c1:decide ((m.Alphas.length:Int)=(x.Alphas.length:Int))=true:=decide_eq_true MB
      simp only[c1,hA,gh,if_false,d]
      cases iU (fun a b=>decide (a.L=b.L)) m.Alphas x.Alphas <;> rfl
    · have c1:decide ((m.Alphas.length:Int)=(x.Alphas.length:Int))=false:=decide_eq_false MB
      simp only[c1,hG,if_true]
      cases h:iU (fun a b=>decide (a.L=b.L)) m.Alphas x.Alphas with
      | false=>rfl
      | true=>exact absurd (pF h) c
  have a2:bB N m.Rules x.Rules (ff N)=some (iU kv m.Rules x.Rules):=by
    unfold bB
    by_cases c:m.Rules.length=x.Rules.length
    · have d:=lp2 (aO N m.Rules x.Rules (ff N)) m.Rules x.Rules c hm.2.1 kv (some true) (some false)
        (fun n i u v g1 g2 g3 g4 g5 g6=>by
          simp only[aO,g5,if_true,g1,g2,gf,EO f u v (hm.2.2 u g3) (g.2.2 v g4),g6]
          cases kv u v <;> simp)
        (fun n i g1 g2=>by simp only[aO,g1,gh,if_false]) N 0 MB (by have:=hm.2.1;omega)
      simp only[hE] at d
      rw[show ((0:Nat):Int)=0 from rfl] at d
      have c1:decide ((m.Rules.length:Int)=(x.Rules.length:Int))=true:=decide_eq_true MB
      simp only[c1,hA,gh,if_false,d]
      cases iU kv m.Rules x.Rules <;> rfl
    · have c1:decide ((m.Rules.length:Int)=(x.Rules.length:Int))=false:=decide_eq_false MB
      simp only[c1,hG,if_true]
      cases h:iU kv m.Rules x.Rules with
      | false=>rfl
      | true=>exact absurd (pF h) c
  simp only[j,a2,gf]
  cases iU (fun a b=>decide (a.L=b.L)) m.Alphas x.Alphas <;> simp
def yn (k h:Int) (t:ah):Bool:=decide ((t.Ids.length:Int)=k) && decide ((t.Hits.length:Int)=h)
theorem Kc {N:Nat} (a:1099000000000≤N) (l:List ah) (k h:Int) (b:l.length≤4294967296):nL N l k h=some (l.all (yn k h)):=by
  unfold nL
  refine lp0 a l b (fw N l k h) (fun t=>some (t.all (yn k h))) (fun n i x t g1 g2 g3 g4 g5 g6 g7=>?_) (fun n i g1 g2=>?_)
  · simp only[fw,g5,if_true,g4,gf,g6,g7,ix,yn]
    by_cases c1:(x.Ids.length:Int)=k
    · by_cases c2:(x.Hits.length:Int)=h <;> simp[c1,c2]
    · simp[c1]
  · simp only[fw,g2,gh,if_false];rfl
def xA (c:aR):Nat→List ao→Bool
  | _,[]=>true
  | i,L :: Ls=>L.Toks.all (yn ((i+1:Nat):Int) (if i+1=c.Pos.length then (c.Neg.length:Int) else 0)) && xA c (i+1) Ls
def qg (c:aR) (w:aP):Bool:=decide (w.Levels.length=c.Pos.length) && xA c 0 w.Levels
def rD (n:bO) (m:aI):Bool:=(decide (m.Alphas.length=n.Alphas.length) && decide (m.Rules.length=n.Chains.length)) && iU qg n.Chains m.Rules
theorem GL {N:Nat} (b:1099000000000≤N) (n:bO) (m:aI) (s1:Int) (K:Int→Option Bool) (c:aR) (w:aP) (d:idx n.Chains s1=some c) (hw:idx m.Rules s1=some w) (o:w.Levels.length=c.Pos.length) (p:w.Levels.length≤4294967296) (e:∀ L∈w.Levels,L.Toks.length≤4294967296) :
    ∀ (k i:Nat),i≤w.Levels.length→w.Levels.length - i < k→cp N n m s1 K c k (i:Int)=if xA c i (w.Levels.drop i)=true then K (IntKind.i64.wrap (s1+1)) else some false:=by
  intro k
  induction k with
  | zero=>intro i _ h;omega
  | succ k f=>
    intro i q hk
    by_cases a:i < w.Levels.length
    · have c1:decide ((i:Int) < (c.Pos.length:Int))=true:=decide_eq_true MB
      have g:IntKind.i64.wrap ((c.Pos.length:Int) - 1)=((c.Pos.length - 1:Nat):Int):=by
        rw[show ((c.Pos.length:Int) - 1)=((c.Pos.length - 1:Nat):Int) by omega]
        exact wr MB MB
      have l:=e _ (hz a)
      rw[ho a,xA]
      have j:∀ h:Int,fG N m s1 (i:Int) (cp N n m s1 K c k) h=if (w.Levels[i].Toks.all (yn ((i+1:Nat):Int) h) && xA c (i+1) (w.Levels.drop (i+1)))=true then K (IntKind.i64.wrap (s1+1)) else some false:=by
        intro h
        unfold fG
        simp only[hw,gf,an a,wr1 i MB,Kc b _ _ h l,f (i+1) MB MB]
        cases w.Levels[i].Toks.all (yn ((i+1:Nat):Int) h) <;> simp
      simp only[cp,c1,if_true,g,d,gf,j]
      by_cases he:i+1=c.Pos.length
      · have c2:decide ((i:Int)=((c.Pos.length - 1:Nat):Int))=true:=decide_eq_true MB
        rw[c2,if_pos rfl,if_pos he]
      · have c2:decide ((i:Int)=((c.Pos.length - 1:Nat):Int))=false:=decide_eq_false MB
        rw[c2,if_neg MC,if_neg he]
    · have c1:decide ((i:Int) < (c.Pos.length:Int))=false:=decide_eq_false MB
      rw[hy MB]
      simp only[cp,c1,gh,if_false,xA,if_true]
theorem HS {N:Nat} (h:1099000000000≤N) (n:bO) (m:aI) (hm:wE m):m9 N n m=some (rD n m):=by
  unfold m9 rD
  by_cases g:m.Alphas.length=n.Alphas.length
  · by_cases a2:m.Rules.length=n.Chains.length
    · have c1:decide ((m.Alphas.length:Int)=(n.Alphas.length:Int))=true:=decide_eq_true MB
      have c2:decide ((m.Rules.length:Int)=(n.Chains.length:Int))=true:=decide_eq_true MB
      have b:=lp2 (bP N n m) n.Chains m.Rules a2.symm (by have:=hm.2.1;omega) qg (some true) (some false)
        (fun k i c w g1 g2 g3 g4 g5 g6=>by
          have a:decide ((i:Int) < (m.Rules.length:Int))=true:=by rw[a2];exact g5
          have hw:=hm.2.2 w g4
          by_cases d:w.Levels.length=c.Pos.length
          · have f:decide ((w.Levels.length:Int)=(c.Pos.length:Int))=true:=decide_eq_true MB
            have e:=GL h n m (i:Int) (bP N n m k) c w g1 g2 d hw.1 (fun L j=>(hw.2 L j).1) N 0 MB (by have:=hw.1;omega)
            simp only[hE] at e
            rw[show ((0:Nat):Int)=0 from rfl] at e
            simp only[bP,a,if_true,g1,g2,gf,f,hA,gh,if_false,e,qg,g6]
            simp only[decide_eq_true d,hK]
          · have f:decide ((w.Levels.length:Int)=(c.Pos.length:Int))=false:=decide_eq_false MB
            simp only[bP,a,if_true,g1,g2,gf,f,hG,qg]
            simp only[decide_eq_false d,Bool.false_and,gh,if_false])
        (fun k i g1 g2=>by
          have a:decide ((i:Int) < (m.Rules.length:Int))=false:=by rw[a2];exact g1
          simp only[bP,a,gh,if_false]) N 0 MB (by have:=hm.2.1;omega)
      simp only[hE] at b
      rw[show ((0:Nat):Int)=0 from rfl] at b
      simp only[c1,c2,hA,gh,if_false,gf,b]
      rw[decide_eq_true g,decide_eq_true a2]
      cases iU qg n.Chains m.Rules <;> rfl
    · have c1:decide ((m.Alphas.length:Int)=(n.Alphas.length:Int))=true:=decide_eq_true MB
      have c2:decide ((m.Rules.length:Int)=(n.Chains.length:Int))=false:=decide_eq_false MB
      simp only[c1,c2,hA,hG,gh,if_false,gf,if_true]
      rw[decide_eq_false a2];simp
  · have c1:decide ((m.Alphas.length:Int)=(n.Alphas.length:Int))=false:=decide_eq_false MB
    simp only[c1,hG,if_true,gf]
    rw[decide_eq_false g];simp
theorem Je {N:Nat} (a:1099000000000≤N) (l:List ah) (t:ah) (c:l.length≤4294967296) (b:∀ u∈l,yy u):mD N l t=some (decide (t∈l)):=by
  unfold mD
  refine (lp0 a l c (ga N l t) (fun v=>some (decide (t∈v))) (fun n i x v g1 g2 g3 g4 g5 g6 g7=>?_) (fun n i g1 g2=>?_))
  · simp only[ga,g5,if_true,g4,gf,AC a _ _ (b x g2).1,AC a _ _ (b x g2).2,g6,g7]
    have e:(t∈x :: v)↔(x.Ids=t.Ids∧x.Hits=t.Hits)∨t∈v:=by
      rw[hC]
      refine or_congr ⟨fun h=>by subst h;exact⟨rfl,rfl⟩,fun h=>by cases x;cases t;simp_all⟩ Iff.rfl
    by_cases c1:x.Ids=t.Ids
    · by_cases c2:x.Hits=t.Hits
      · simp[e,c1,c2]
      · simp[e,c1,c2]
    · simp[e,c1]
  · simp only[ga,g2,gh,if_false];simp
theorem xy {α:Type}:∀ {b a:List α},b.Nodup→(∀ y∈b,y∈a)→a.length≤b.length→a.Perm b
  | [],a,_,_,c=>by
    have:a=[]:=rv.1 (by simpa using c)
    subst this;exact List.Perm.refl _
  | y :: b,a,f,d,c=>by
    obtain⟨s,t,rfl⟩:=List.append_of_mem (d y MC)
    obtain⟨h1,g⟩:=List.nodup_cons.1 f
    have:=xy (b:=b) (a:=s++t) g (fun z e=>by
      have:=d z (by simp[e])
      simp only[gb,hC] at this ⊢
      rcases this with h | rfl | h
      · exact .inl h
      · exact absurd e h1
      · exact .inr h) (by simp at c ⊢;omega)
    exact List.perm_middle.trans (this.cons y)
theorem xD {α:Type} {p q:α→Prop} [DecidablePred p] [DecidablePred q]:∀ {a b:List α},a.length=b.length→(iU (fun x y=>decide (p x) && decide (q y)) a b=true↔(∀ x∈a,p x)∧∀ y∈b,q y)
  | [],[],_=>by simp[iU]
  | x :: a,y :: b,h=>by
    simp only[iU,gI,decide_eq_true_eq,xD (show a.length=b.length by simpa using h),hC,forall_eq_or_imp]
    constructor
    · rintro⟨⟨h1,c⟩,d,e⟩;exact⟨⟨h1,d⟩,c,e⟩
    · rintro⟨⟨h1,d⟩,c,e⟩;exact⟨⟨h1,c⟩,d,e⟩
  | [],_ :: _,h=>by simp at h
  | _ :: _,[],h=>by simp at h
theorem ID {N:Nat} (f:1099000000000≤N) (a b:ao) (d:KA a) (g:KA b) (j:b.Toks.Nodup):lW N a.Toks b.Toks=some (o2 a b):=by
  unfold lW o2
  by_cases c:a.Toks.length=b.Toks.length
  · have c1:decide ((a.Toks.length:Int)=(b.Toks.length:Int))=true:=decide_eq_true MB
    have e:=lp2 (eA N a.Toks b.Toks) a.Toks b.Toks c d.1 (fun x y=>decide (x∈b.Toks) && decide (y∈a.Toks)) (some true) (some false)
      (fun n i x y g1 g2 g3 g4 g5 g6=>by
        simp only[eA,g5,if_true,g1,g2,gf,Je f b.Toks x g.1 g.2,Je f a.Toks y d.1 d.2,g6]
        by_cases d1:x∈b.Toks
        · by_cases d2:y∈a.Toks <;> simp[d1,d2]
        · simp[d1])
      (fun n i g1 g2=>by simp only[eA,g1,gh,if_false]) N 0 MB (by have:=d.1;omega)
    simp only[hE] at e
    rw[show ((0:Nat):Int)=0 from rfl] at e
    simp only[c1,hA,gh,if_false,e]
    by_cases hp:a.Toks.Perm b.Toks
    · rw[if_pos ((xD c).2 ⟨fun x k=>hp.mem_iff.1 k,fun y l=>hp.mem_iff.2 l⟩),decide_eq_true hp]
    · rw[if_neg fun h=>hp (xy j ((xD c).1 h).2 MB),decide_eq_false hp]
  · have c1:decide ((a.Toks.length:Int)=(b.Toks.length:Int))=false:=decide_eq_false MB
    simp only[c1,hG,if_true]
    rw[decide_eq_false fun h=>c h.length_eq]
theorem FH {N:Nat} (e:1099000000000≤N) (m x:aI) (s2:Int) (K:Int→Option Bool) (v w:aP) (c:idx m.Rules s2=some v) (hw:idx x.Rules s2=some w) (f:v.Levels.length=w.Levels.length) (zv:EX v) (g:EX w) (h:∀ L∈w.Levels,L.Toks.Nodup) :
    dJ N m x s2 K N 0=if kv v w=true then K (IntKind.i64.wrap (s2+1)) else some false:=by
  have d:=lp2 (dJ N m x s2 K) v.Levels w.Levels f zv.1 o2 (K (IntKind.i64.wrap (s2+1))) (some false)
    (fun n i a b g1 g2 g3 g4 g5 g6=>by
      simp only[dJ,c,hw,g5,if_true,g1,g2,gf,ID e a b (zv.2 a g3) (g.2 b g4) (h b g4),g6]
      cases o2 a b <;> simp)
    (fun n i g1 g2=>by simp only[dJ,c,gf,g1,gh,if_false]) N 0 MB (by have:=zv.1;omega)
  simp only[hE] at d
  exact d
theorem FU {N:Nat} (f:1099000000000≤N) (m x:aI) (hm:wE m) (g:wE x) (h1:m.Alphas.length=x.Alphas.length) (h:m.Rules.length=x.Rules.length) (j:∀ (i:Nat) (v w:aP),idx m.Rules (i:Int)=some v→idx x.Rules (i:Int)=some w→v.Levels.length=w.Levels.length)
    (k:∀ w∈x.Rules,∀ L∈w.Levels,L.Toks.Nodup):dC N m x N 0=some (w7 m x):=by
  have c:=lp2 (cC N m x) m.Rules x.Rules h hm.2.1 kv (some true) (some false)
    (fun n i v w g1 g2 g3 g4 g5 g6=>by
      simp only[cC,g5,if_true,FH f m x (i:Int) _ v w g1 g2 (j i v w g1 g2) (hm.2.2 v g3) (g.2.2 w g4) (k w g4),g6])
    (fun n i g1 g2=>by simp only[cC,g1,gh,if_false]) N 0 MB (by have:=hm.2.1;omega)
  simp only[hE] at c
  have d:=lp2 (dC N m x) m.Alphas x.Alphas h1 hm.1.1 (fun a b=>decide (a.L=b.L)) (cC N m x N 0) (some false)
    (fun n i u v g1 g2 g3 g4 g5 g6=>by
      simp only[dC,g5,if_true,g1,g2,gf,AC f u.L v.L (hm.1.2 u g3),g6]
      by_cases e:u.L=v.L <;> simp[e])
    (fun n i g1 g2=>by simp only[dC,g1,gh,if_false]) N 0 MB (by have:=hm.1.1;omega)
  simp only[hE] at d
  rw[show ((0:Nat):Int)=0 from rfl] at c d
  rw[d,c]
  unfold w7
  cases iU (fun a b=>decide (a.L=b.L)) m.Alphas x.Alphas <;> cases iU kv m.Rules x.Rules <;> rfl
theorem Hb {α:Type} {p:α→Bool} {l m:List α} (h:l.Perm m):l.all p=m.all p:=by
  rw[Bool.eq_iff_iff,l4,l4]
  exact⟨fun g x a=>g x (h.mem_iff.2 a),fun g x a=>g x (h.mem_iff.1 a)⟩
theorem zZ {c:aR}:∀ {i:Nat} {l m:List ao},iU o2 l m=true→xA c i l=xA c i m
  | i,[],[],_=>rfl
  | i,a :: l,b :: m,h=>by
    simp only[iU,gI] at h
    unfold xA
    rw[zZ h.2,Hb (of_decide_eq_true h.1)]
  | i,[],_ :: _,h=>by cases h
  | i,_ :: _,[],h=>by cases h
theorem xb:∀ {cs:List aR} {l m:List aP},iU kv l m=true→iU qg cs l=iU qg cs m
  | [],[],[],_=>rfl
  | c :: cs,[],[],_=>rfl
  | [],v :: l,w :: m,_=>rfl
  | c :: cs,v :: l,w :: m,h=>by
    simp only[iU,gI] at h
    unfold iU
    rw[xb h.2]
    congr 1
    unfold qg
    have h1:=h.1
    unfold kv at h1
    rw[zZ h1,pF h1]
  | _,[],_ :: _,h=>by cases h
  | _,_ :: _,[],h=>by cases h
theorem Cm {n:bO} {m x:aI} (h:w7 m x=true):rD n m=rD n x:=by
  unfold w7 at h
  rw[gI] at h
  unfold rD
  rw[pF h.1,pF h.2,xb h.2]
def m6 (id:Int) (l:List ah):List ah:=l.filter fun t=>!decide (id∈t.Ids)
def oa (id:Int) (L:ao):ao:=⟨m6 id L.Toks⟩
def CF (id:Int) (i:bm):bm:=⟨i.L.filter fun x=>!decide (x=id)⟩
def rW (xs:List aw) (f:aH) (id:Int) (r:ai) (w:aP):aP:=fN xs (pos r.Pats) (neg r.Pats) f (-1) ⟨w.Levels.map (oa id)⟩
def oW (g:ai→aP→aP):List ai→List aP→List aP
  | r :: a,w :: ws=>g r w :: oW g a ws
  | _,ws=>ws
def C6 (d:bo) (m:aI) (s:ag) (id:Int):aI:=⟨m.Alphas.map (CF id),oW (rW s.Items (aK s.Items id).1 id) d.Rules m.Rules⟩
theorem xB {g:ai→aP→aP}:∀ (a:List ai) (ws:List aP),a.length=ws.length→(oW g a ws).length=ws.length∧∀ (i:Nat) (v:aP),(oW g a ws)[i]?=some v→∃ (r:ai) (w:aP),a[i]?=some r∧ws[i]?=some w∧v=g r w
  | [],[],_=>⟨rfl,fun i v h=>by simp[oW] at h⟩
  | [],w :: ws,h=>by simp at h
  | r :: a,[],h=>by simp at h
  | r :: a,w :: ws,h=>by
    obtain⟨h1,c⟩:=xB (g:=g) a ws (by simpa using h)
    refine⟨by simp[oW,h1],fun i v b=>?_⟩
    cases i with
    | zero=>simp only[oW,zx,Option.some.injEq] at b;exact⟨r,w,rfl,rfl,b.symm⟩
    | succ i=>simp only[oW,MO] at b;simpa using c i v b
theorem GN {id:Int} {r:ai} {j:Nat} {w:aP} (h:CP r j w):CP r j ⟨w.Levels.map (oa id)⟩:=by
  obtain⟨h1,d⟩:=h
  refine⟨by simpa using h1,fun i M c=>?_⟩
  simp only[p4,vy] at c
  obtain⟨L,e,rfl⟩:=c
  obtain⟨a,b⟩:=d i L e
  have f:(m6 id L.Toks).length≤L.Toks.length:=p7 _ _
  exact⟨j4 f a,fun t g=>b t (ry.1 g).1⟩
theorem Fg {d:bo} {n:bO} {m:aI} {s:ag} {id:Int} {j:Nat} (h:sj d n j m):sj d n j (C6 d m s id):=by
  have a:=xB (g:=rW s.Items (aK s.Items id).1 id) d.Rules m.Rules h.lr.symm
  refine⟨by simpa[C6] using h.la,by show (oW _ _ _).length=_;rw[a.1];exact h.lr,fun i b=>?_,fun i r v c f=>?_⟩
  · simp only[C6] at b
    obtain⟨y,k,rfl⟩:=hQ.1 b
    have l:(CF id y).L.length≤y.L.length:=p7 _ _
    exact j4 l (h.al y k)
  · obtain⟨o,w,e,a3,rfl⟩:=a.2 i v f
    rw[c] at e
    cases e
    exact uC (GN (h.rows i r w c a3))
theorem Lx {N:Nat} (a:1099000000000≤N) (l:List Int) (v:Int) (b:l.length≤4294967296):pB N l v=some (decide (v∈l)):=by
  unfold pB
  refine lp0 a l b (gn N l v) (fun t=>some (decide (v∈t))) (fun n j x t g1 g2 g3 g4 g5 g6 g7=>?_) (fun n j g1 g2=>?_)
  · simp only[gn,g5,if_true,g4,gf,g6,g7]
    by_cases h:x=v
    · simp[h]
    · have c : ¬ v=x:=fun e=>h e.symm
      simp[h,c]
  · simp only[gn,g2,gh,if_false];simp
theorem En {N:Nat} (b:1099000000000≤N) (l:List ah) (id:Int) (a:l.length≤4294967296) (f:∀ t∈l,t.Ids.length≤4294967296):jL N l id=some (m6 id l):=by
  unfold jL
  have g:BZ l=some ():=by unfold BZ;rw[if_pos a]
  rw[g,gf]
  refine (lp' b l a (fun n (u:List ah) i=>dm N l id n u i) (fun t u=>some (u++m6 id t)) (fun u t=>u.length+t.length≤4294967296) [] (by simpa using a) (fun n u i x t g1 g2 g3 g4 g5 g6 c d=>?_) (fun n u i g1 g2 c=>?_)).trans MC
  · simp only[gx] at c
    have e:m6 id (x :: t)=if id∈x.Ids then m6 id t else x :: m6 id t:=by
      unfold m6;rw[k0];by_cases h:id∈x.Ids <;> simp[h]
    simp only[dm,g5,if_true,g4,gf,Lx b x.Ids id (f x g2),g6,e]
    by_cases h:id∈x.Ids
    · simp only[h,decide_true,hA,gh,if_false,if_true]
      exact d u MB
    · simp only[h,decide_false,hG,if_true,if_false,bD (show u.length+[x].length≤4294967296 by simp;omega),gf]
      rw[d _ (by simp;omega)];simp
  · simp only[dm,g2,gh,if_false];simp[m6]
structure GF (d:bo) (m:aI) (s:ag):Prop where
  sl:s.Items.length≤1048576
  fl:∀ x∈s.Items,x.F.Fields.length≤1048576
  al:m.Alphas.length≤1048576
  ll:∀ i∈m.Alphas,i.L.length≤1048576
  rl:m.Rules.length≤1048576
  ld:d.Rules.length=m.Rules.length
  rows:∀ (i:Nat) (r:ai) (w:aP),d.Rules[i]?=some r→m.Rules[i]?=some w→SzS r s∧(pos r.Pats).length=af r.Pats∧1≤w.Levels.length∧w.Levels.length≤(pos r.Pats).length ∧
    (∀ L∈w.Levels,L.Toks.length≤4294967296∧∀ t∈L.Toks,t.Ids.length≤(pos r.Pats).length)∧∀ L,w.Levels[w.Levels.length - 1]?=some L→∀ t∈L.Toks,t.Hits.length=(neg r.Pats).length∧∀ x∈t.Hits,InR x
theorem Ia {N:Nat} (i:1099000000000≤N) (d:bo) (s:ag) (id:Int) (b:Bool) (f:List aP) (a:Int) (K:List aP→Int→Option aI) (r:ai) (w:aP) (v:idx d.Rules a=some r) (j:SzS r s) (F:(pos r.Pats).length=af r.Pats) (h1:1≤w.Levels.length) (G:w.Levels.length≤(pos r.Pats).length)
    (k:∀ L∈w.Levels,L.Toks.length≤4294967296∧∀ t∈L.Toks,t.Ids.length≤(pos r.Pats).length) (z:∀ L,w.Levels[w.Levels.length - 1]?=some L→∀ t∈L.Toks,t.Hits.length=(neg r.Pats).length∧∀ x∈t.Hits,InR x) :
    fj N d s id ((aK s.Items id).1,b) f a K N w.Levels 0=K (f.set a.toNat (rW s.Items (aK s.Items id).1 id r w)) (IntKind.i64.wrap (a+1)):=by
  have H:=dp r.Pats
  have I:=j.pl
  have lp:∀ (rest:List ao) (n:Nat) (done:List ao),rest.length < n→w.Levels=done++rest →
      fj N d s id ((aK s.Items id).1,b) f a K n (done.map (oa id)++rest) (done.length:Int)=K (f.set a.toNat (rW s.Items (aK s.Items id).1 id r w)) (IntKind.i64.wrap (a+1)):=by
    intro rest
    induction rest with
    | nil=>
      intro n done g c
      obtain⟨n,rfl⟩:∃ m,n=m+1:=⟨n - 1,by simp at g;omega⟩
      have A:w.Levels=done:=by simpa using c
      subst A
      have c1:decide ((w.Levels.length:Int) < ((w.Levels.map (oa id)++[]).length:Int))=false:=decide_eq_false MC
      have h:IntKind.i64.wrap (((w.Levels.map (oa id)++[]).length:Int) - 1)=((w.Levels.length - 1:Nat):Int):=by
        rw[mx,Cl,show ((w.Levels.length:Int) - 1)=((w.Levels.length - 1:Nat):Int) by omega]
        exact wr MB MB
      have l:w.Levels.length - 1 < w.Levels.length:=by omega
      have o:w.Levels[w.Levels.length - 1]?=some w.Levels[w.Levels.length - 1]:=hh l
      have p:(w.Levels.map (oa id))[w.Levels.length - 1]?=some (oa id w.Levels[w.Levels.length - 1]):=by rw[p4,o];rfl
      have B:idx (w.Levels.map (oa id)++[]) ((w.Levels.length - 1:Nat):Int)=some (oa id w.Levels[w.Levels.length - 1]):=by rw[mx,kT,p]
      obtain⟨q,z2⟩:=k _ (hz l)
      have M:(oa id w.Levels[w.Levels.length - 1]).Toks.length≤w.Levels[w.Levels.length - 1].Toks.length:=p7 _ _
      have e:=FN i r s j (aK s.Items id).1 (-1) (Or.inr rfl) (oa id w.Levels[w.Levels.length - 1]).Toks MB (fun t e=>by
        have hm:t∈w.Levels[w.Levels.length - 1].Toks:=(ry.1 e).1
        exact⟨by have:=z2 t hm;omega,z _ o t hm⟩)
      simp only[fj,c1,gh,if_false,v,gf,h,B,e,hX]
      unfold rW fN
      simp only[Cl,p,mx]
    | cons L Ls C=>
      intro n done g c
      obtain⟨n,rfl⟩:∃ m,n=m+1:=⟨n - 1,MB⟩
      simp only[gx] at g
      have O:w.Levels.length=done.length+(Ls.length+1):=by rw[c];simp
      have c1:decide ((done.length:Int) < ((done.map (oa id)++L :: Ls).length:Int))=true:=decide_eq_true (by simp;omega)
      have u:(done.map (oa id)).length=done.length:=by simp
      have D:idx (done.map (oa id)++L :: Ls) (done.length:Int)=some L:=by rw[← u];exact dI _ _ _
      have E:∀ y:ao,(done.map (oa id)++L :: Ls).set (done.length:Int).toNat y=(done.map (oa id)++[y])++Ls:=fun y=>by rw[hX,← u];exact kt _ _ _ _
      obtain⟨q,z2⟩:=k L (by rw[c];simp)
      have h:=En i L.Toks id q (fun t e=>by have:=z2 t e;omega)
      simp only[fj,c1,if_true,D,gf,h,E,wr1 done.length MB]
      have:=C n (done++[L]) MB (by rw[c];simp)
      simp only[hd,gx,ha,ht,px,hS,q2] at this
      exact this
  have:=lp w.Levels N [] MB rfl
  simpa using this
theorem Du {N:Nat} (l:1099000000000≤N) (d:bo) (s:ag) (id:Int) (b:Bool) (as:List bm) (m:d.Rules.length≤1048576) :
    ∀ (ws:List aP) (c:List ai) (k:Nat) (e:List ai) (a:List aP),ws.length < k→d.Rules=e++c→e.length=a.length→c.length=ws.length →
      (∀ (i:Nat) (r:ai) (w:aP),c[i]?=some r→ws[i]?=some w→SzS r s∧(pos r.Pats).length=af r.Pats∧1≤w.Levels.length∧w.Levels.length≤(pos r.Pats).length ∧
        (∀ L∈w.Levels,L.Toks.length≤4294967296∧∀ t∈L.Toks,t.Ids.length≤(pos r.Pats).length)∧∀ L,w.Levels[w.Levels.length - 1]?=some L→∀ t∈L.Toks,t.Hits.length=(neg r.Pats).length∧∀ x∈t.Hits,InR x) →
      ej N d s id ((aK s.Items id).1,b) as k (a++ws) (a.length:Int)=some ⟨as,a++oW (rW s.Items (aK s.Items id).1 id) c ws⟩
  | [],c,k,e,a,hk,h1,f,g,h=>by
    obtain⟨k,rfl⟩:∃ j,k=j+1:=⟨k - 1,by simp at hk;omega⟩
    have n:c=[]:=rv.1 g
    subst n
    have c1:decide ((a.length:Int) < (d.Rules.length:Int))=false:=decide_eq_false (by rw[h1,← f];simp)
    simp only[ej,c1,gh,if_false,oW]
  | w :: ws,[],k,e,a,hk,h1,f,g,h=>by simp at g
  | w :: ws,r :: c,k,e,a,hk,h1,f,g,h=>by
    obtain⟨k,rfl⟩:∃ j,k=j+1:=⟨k - 1,MB⟩
    simp only[gx] at hk g
    have C:d.Rules.length=a.length+(c.length+1):=by rw[h1,← f];simp
    have c1:decide ((a.length:Int) < (d.Rules.length:Int))=true:=decide_eq_true MB
    obtain⟨o,p,q,u,v,y⟩:=h 0 r w rfl rfl
    have z:idx d.Rules (a.length:Int)=some r:=by rw[h1,← f];exact dI _ _ _
    simp only[ej,c1,if_true,dI,gf]
    rw[Ia l d s id b (a++w :: ws) (a.length:Int) _ r w z o p q u v y]
    simp only[hX,kt,wr1 a.length MB]
    have:=Du l d s id b as m ws c k (e++[r]) (a++[rW s.Items (aK s.Items id).1 id r w]) MB (by rw[h1];simp) (by simp[f]) MB
      (fun i A w' B a3=>h (i+1) A w' (by simpa using B) (by simpa using a3))
    simp only[hd,gx,ha,ht] at this
    rw[this,gk]
    rfl
theorem HK {N:Nat} (d:1099000000000≤N) (id:Int) (s1:List bm) (s2:Int) (K:List bm→Int→Option aI) (x:bm) (a:idx s1 s2=some x) (e:x.L.length≤1048576) :
    ef N id s1 s2 K N [] 0=K (s1.set s2.toNat (CF id x)) (IntKind.i64.wrap (s2+1)):=by
  refine (lp' d x.L MB (fun n (u:List Int) i=>ef N id s1 s2 K n u i) (fun t u=>K (s1.set s2.toNat (⟨u++t.filter fun x=>!decide (x=id)⟩:bm)) (IntKind.i64.wrap (s2+1))) (fun u t=>u.length+t.length≤1048576) [] (by simpa using e) (fun n u i v t g1 g2 g3 g4 g5 g6 b c=>?_) (fun n u i g1 g2 b=>?_)).trans (by simp[CF])
  · simp only[gx] at b
    simp only[ef,a,gf,g5,if_true,g4,g6,k0]
    by_cases h:v=id
    · simp only[h,decide_true,hA,gh,if_false]
      exact c u MB
    · simp only[h,decide_false,hG,if_true,bD (show u.length+[v].length≤4294967296 by simp;omega),gf]
      rw[c _ (by simp;omega)];simp
  · simp only[ef,a,gf,g2,gh,if_false,List.filter_nil,mx]
theorem HF {N:Nat} (b:1099000000000≤N) (d:bo) (m:aI) (s:ag) (id:Int) (h:GF d m s):nI N d m s id=some (C6 d m s id):=by
  have p:=h.al
  have q:=h.rl
  have r:=h.ld
  unfold nI
  rw[y6 b s id h.sl h.fl,gf]
  have lp:∀ (is:List bm) (n:Nat) (a:List bm),is.length < n→m.Alphas.length=a.length+is.length→(∀ i∈is,i.L.length≤1048576) →
      em N d m s id (aK s.Items id) n (a++is) (a.length:Int)=ej N d s id (aK s.Items id) (a++is.map (CF id)) N m.Rules 0:=by
    intro is
    induction is with
    | nil=>
      intro n a c f e
      obtain⟨n,rfl⟩:∃ m,n=m+1:=⟨n - 1,by simp at c;omega⟩
      have c1:decide ((a.length:Int) < ((a++[]).length:Int))=false:=decide_eq_false MC
      simp only[em,c1,gh,if_false,q2]
    | cons i is k=>
      intro n a c f e
      obtain⟨n,rfl⟩:∃ m,n=m+1:=⟨n - 1,MB⟩
      simp only[gx] at c f
      have c1:decide ((a.length:Int) < ((a++i :: is).length:Int))=true:=decide_eq_true (by simp;omega)
      simp only[em,c1,if_true]
      rw[HK b id _ _ _ i (dI _ _ _) (e i MC),hX,kt,wr1 a.length MB]
      have:=k n (a++[CF id i]) MB (by simp;omega) (fun j l=>e j (by simp[l]))
      simp only[hd,gx,ha,ht] at this
      rw[this,hS,gk];rfl
  have h1:=lp m.Alphas N [] MB MC h.ll
  simp only[hB,ha,nn] at h1
  have o:em N d m s id (aK s.Items id) N m.Alphas 0=_:=h1
  rw[o]
  have g:=Du b d s id (aK s.Items id).2 (m.Alphas.map (CF id)) MB m.Rules d.Rules N [] [] MB rfl rfl h.ld h.rows
  simp only[hB,ha,nn] at g
  exact g
structure Ck (j:Nat) (m:aI):Prop where
  la:m.Alphas.length≤1001
  lr:m.Rules.length≤1001
  al:∀ i∈m.Alphas,i.L.length≤j
  rows:∀ w∈m.Rules,w.Levels.length≤3∧∀ k L,w.Levels[k]?=some L→L.Toks.length≤j*100 ^ k∧∀ t∈L.Toks,t.Ids.length≤1000∧t.Hits.length≤1000∧(k+1=w.Levels.length→∀ x∈t.Hits,InR x)
theorem Ck.sz {j:Nat} {m:aI} (c:j≤40) (h:Ck j m):wE m:=by
  have h1:=h.la
  have g:=h.lr
  refine⟨⟨MB,fun a d=>by have:=h.al a d;omega⟩,MB,fun w hw=>?_⟩
  obtain⟨i,z2⟩:=h.rows w hw
  refine⟨MB,fun L e=>?_⟩
  obtain⟨k,hk,rfl⟩:=s0 e
  obtain⟨a,b⟩:=z2 k _ (hh hk)
  have hp:100 ^ k≤100 ^ 2:=ME MB MB
  have:j*100 ^ k≤40*100 ^ 2:=Nat.mul_le_mul c hp
  refine⟨MB,fun t f=>?_⟩
  have:=b t f
  exact⟨MB,MB⟩
theorem CY {d:bo} (b:lh d=true):∀ r∈d.Rules,r.Pats.length≤6∧1≤(pos r.Pats).length∧(pos r.Pats).length≤3∧(neg r.Pats).length≤6:=fun r c=>by
  have a:=mz b r c
  have hp:gK r.Pats=true:=by
    unfold im at a
    simp only[gI] at a
    exact a.2.2.1
  have f:(pos r.Pats).length=af r.Pats:=pE r.Pats
  have g:(neg r.Pats).length≤r.Pats.length:=p7 _ _
  unfold gK at hp
  simp only[gI,decide_eq_true_eq] at hp
  obtain⟨⟨_,e⟩,⟨h,i⟩,_⟩:=hp
  exact⟨e,MB,MB,MB⟩
theorem Dx {d:bo} {n:bO} {j:Nat} {m:aI} (c:lh d=true) (q:n.Alphas.length≤1001) (h:sj d n j m):Ck j m:=by
  have r:d.Rules.length≤12:=by
    unfold lh at c
    simp only[gI,decide_eq_true_eq] at c
    exact c.2.1.2
  have h1:=h.la
  have s:=h.lr
  refine⟨MB,MB,h.al,fun w hw=>?_⟩
  obtain⟨i,l,rfl⟩:=s0 hw
  have f:i < d.Rules.length:=by omega
  obtain⟨u,o⟩:=h.rows i _ _ (hh f) (hh l)
  obtain⟨v,x,y,z⟩:=CY c _ (hz f)
  refine⟨MB,fun k L g=>?_⟩
  obtain⟨a,b⟩:=o k L g
  have hk:k < m.Rules[i].Levels.length:=(hn.1 g).1
  refine⟨a,fun t p=>?_⟩
  obtain⟨t1,t2,t3⟩:=b t p
  exact⟨MB,MB,fun e=>(t3 MB).2⟩
theorem Ey {d:bo} {m:aI} {s:ag} {id:Int} {j:Nat} (l:lh d=true) (n:uM d) (o:s.Items.length≤40) (f:∀ x∈s.Items,x.F.Fields.length≤1048576) (p:j≤40) (h:sj d (cc d) j m):GF d m s:=by
  have ok:=xm (id:=id) l n o f p h
  have z:=ok.ok.la
  have A:=ok.ok.al
  refine⟨ok.ok.sl,f,MB,fun i c=>by have:=h.al i c;omega,ok.ok.rl,ok.ok.ld,fun i r w g e=>?_⟩
  obtain⟨q,u,v⟩:=ok.rows i r w g e
  have c:i < (cc d).Chains.length:=by
    have:=(hn.1 e).1
    have:=ok.ok.lc
    omega
  obtain⟨_,ro⟩:=ok.ok.rows i r _ w g (hh c) e
  have y:=ro.ne
  have B:=ro.ll
  refine⟨q,u,y,MB,fun L a=>?_,fun L a t b=>⟨ro.hit L a t b,v L a t b⟩⟩
  obtain⟨k,hk,rfl⟩:=s0 a
  refine⟨wN ro.fit _ (hQ.2 ⟨_,hz hk,rfl⟩),fun t b=>?_⟩
  have:=ro.ids k _ (hh hk) t b
  omega
theorem KL {d:bo} {n:bO} {nx:Int} (a:Ats n.Alphas n.Chains d.Rules):∀ (rest done:List aw) (m:aI),done.length+rest.length≤40→((done++rest).map (·.Id)).Nodup→sj d n done.length m→Ez d n done m→Ez d n (done++rest) (tA d n nx done rest m)
  | [],done,m,_,_,b,h=>by simpa[tA] using h
  | x :: t,done,m,e,c,b,h=>by
    simp only[gx] at e
    have f:((done++[x]).map (·.Id)).Nodup:=by
      refine List.Nodup.sublist (List.Sublist.map _ ?_) c
      simp
    have h1:=vp (s:=⟨done++[x],nx⟩) (id:=x.Id) MB (by simp;omega) a.len b
    have g:=Jv (nx:=nx) MB f a b h
    have:=KL (nx:=nx) a t (done++[x]) _ (by simp;omega) (by simpa using c) (by simpa using h1) g
    unfold tA
    simpa using this
theorem Lv {d:bo} {n:bO}:Ez d n [] (jP n):=by
  unfold jP
  refine⟨?_,fun i r w g a=>?_⟩
  · unfold uG
    refine List.ext_getElem MC fun i h1 h=>by simp
  · simp only[p4,vy] at a
    obtain⟨c,j,rfl⟩:=a
    intro k L b
    simp only[qH] at b
    obtain⟨_,e⟩:=hn.1 b
    rw[List.getElem_replicate] at e
    subst e
    refine⟨⟨by simp[jE],fun q=>?_⟩,MC⟩
    simp only[jE,q2,List.not_mem_nil,false_iff,not_and]
    intro f hk
    have:=mg _ _ _ hk
    cases q with
    | nil=>simp at f
    | cons v q=>
      have:=this v MC
      simp[aK] at this
theorem IR {nx:Int}:∀ (t done:List aw),kU nx done t=true→(done.Pairwise fun a b=>a.Id < b.Id)→(done++t).Pairwise fun a b=>a.Id < b.Id
  | [],done,_,h=>by simpa using h
  | x :: t,done,e,h=>by
    unfold kU at e
    simp only[gI] at e
    have d:=e.2.1
    have g:(done++[x]).Pairwise fun a b=>a.Id < b.Id:=by
      rw[D0]
      refine⟨h,MC,fun a c b f=>?_⟩
      simp only[hZ] at f
      subst f
      unfold gu at d
      rcases MM done with rfl | ⟨q,y,rfl⟩
      · cases c
      · rw[MN] at c d h
        rw[ML] at d
        have d:=of_decide_eq_true d
        rcases gb.1 c with c | c
        · have:=(D0.1 h).2.2 a c y MC
          omega
        · simp only[hZ] at c
          subst c;exact d
    have:=IR t (done++[x]) e.2.2.2 g
    simpa using this
theorem z8 {s:ag} (h:iZ s=true):(s.Items.map (·.Id)).Nodup:=by
  unfold iZ at h
  simp only[gI] at h
  have:=IR s.Items [] h.2.2 MC
  rw[hB] at this
  unfold List.Nodup
  rw[List.pairwise_map]
  exact this.imp fun h=>by omega
theorem IK {d:bo} {xs:List aw} {x:aI} {j:Nat} (v:Ats (cc d).Alphas (cc d).Chains d.Rules) (a:sj d (cc d) j x) (A:Ez d (cc d) xs x) (hp:∀ r∈d.Rules,1≤(pos r.Pats).length):rD (cc d) x=true:=by
  have g:=v.len
  unfold rD
  rw[decide_eq_true a.la,decide_eq_true (by rw[a.lr,g])]
  simp only[hK]
  have key:∀ (i:Nat) (c:aR) (w:aP),(cc d).Chains[i]?=some c→x.Rules[i]?=some w→qg c w=true:=fun i c w m b=>by
    obtain⟨h1,B⟩:=hn.1 m
    have n:i < d.Rules.length:=by rw[← g];exact h1
    have o:=v.get i h1 n
    rw[B] at o
    have y:=a.rows i _ w (hh n) b
    have C:=A.rows i _ w (hh n) b
    have D:c.Pos.length=(pos d.Rules[i].Pats).length:=o.1.len
    have E:c.Neg.length=(neg d.Rules[i].Pats).length:=o.2.len
    unfold qg
    rw[decide_eq_true (by rw[y.1,D])]
    simp only[hK]
    have:∀ (l:List ao) (k:Nat),(∀ q L,l[q]?=some L→w.Levels[k+q]?=some L)→xA c k l=true:=by
      intro l
      induction l with
      | nil=>intro k _;rfl
      | cons L l p=>
        intro k hk
        have s:=hk 0 L rfl
        rw[Nat.add_zero] at s
        obtain⟨I,a2⟩:=y.2 k L s
        obtain⟨K,F⟩:=C k L s
        unfold xA
        rw[p (k+1) fun q M u=>by
          have:=hk (q+1) M (by simpa using u)
          rwa [show k+(q+1)=k+1+q by omega] at this,Bool.and_true,l4]
        intro t z
        have N:=(a2 t z).1
        have G:=F t z
        unfold yn
        rw[G]
        unfold qy
        by_cases e:k+1=(pos d.Rules[i].Pats).length
        · rw[if_pos e,if_pos MB,decide_eq_true MB,decide_eq_true (by rw[E];simp[gD])];rfl
        · rw[if_neg e,if_neg MB,decide_eq_true MB];rfl
    exact this w.Levels 0 fun q L u=>by rw[ht];exact u
  have gen:∀ (cs:List aR) (ws:List aP),cs.length=ws.length→(∀ (i:Nat) (c:aR) (w:aP),cs[i]?=some c→ws[i]?=some w→qg c w=true)→iU qg cs ws=true:=by
    intro cs
    induction cs with
    | nil=>
      intro ws f _
      cases ws with
      | nil=>rfl
      | cons=>simp at f
    | cons c cs p=>
      intro ws f h
      cases ws with
      | nil=>simp at f
      | cons w ws=>
        unfold iU
        rw[h 0 c w rfl rfl,p ws (by simpa using f) fun i H w' m b=>h (i+1) H w' (by simpa using m) (by simpa using b)]
        rfl
  exact gen _ _ (by rw[g,a.lr]) key
theorem Cw {N:Nat} (a:1099000000000≤N) (d:bo) (m:aI) (s:ag) (A:uM d) (B:wE m) (C:tq s):∃ r,lN N d m s=some r∧lR N d m s=some r:=by
  unfold lN lR
  rw[Lw a d A,KP a d A]
  simp only[gf]
  cases f:lh d with
  | false=>
    simp only[hG,if_true,gf,gh,if_false]
    exact⟨_,rfl,rfl⟩
  | true=>
    simp only[hA,gh,if_false,IF a s C,Hz a s C,gf,if_true]
    cases g:iZ s with
    | false=>
      simp only[hG,if_true,gh,if_false]
      exact⟨_,rfl,rfl⟩
    | true=>
      simp only[hA,gh,if_false,if_true]
      have j:s.Items.length≤40:=by
        unfold iZ at g
        simp only[gI,decide_eq_true_eq] at g
        exact g.2.1
      have l:=te f
      have o:=(rf l).2.1
      obtain⟨⟨I,z2⟩,z3,z4⟩:=uQ l
      have D:=xO o
      have p:=BY a d s f A j (fun x K=>(C.2 x K).2.1) s.Items [] N (jP (cc d)) MB rfl D
      simp only[ha,nn] at p
      have hinv:=FG (nx:=s.Next) o.len s.Items [] (jP (cc d)) (by simpa using j) D
      have t:=KL (nx:=s.Next) o s.Items [] (jP (cc d)) (by simpa using j) (by simpa using z8 g) D Lv
      simp only[hB,ha,ht] at hinv t
      have Q:=H9 a (cc d) I z3 (fun c E=>(z4 c E).1)
      have R:=B6 a (cc d) I z3 (fun c E=>(z4 c E).1)
      generalize K:tA d (cc d) s.Next [] s.Items (jP (cc d))=x at p hinv t
      have M:wE x:=by
        have h1:sj d ⟨[],[]⟩ s.Items.length ⟨[],x.Rules⟩:=⟨rfl,hinv.lr,MC,hinv.rows⟩
        have y:=(Dx f MC h1).sz j
        exact⟨⟨by have:=hinv.la;omega,fun i z=>by have:=hinv.al i z;omega⟩,y.2.1,y.2.2⟩
      have S:∀ r∈d.Rules,1≤(pos r.Pats).length:=fun r T=>by
        have F:=mz f r T
        unfold im at F
        simp only[gI] at F
        have hp:=F.2.2.1
        have a1:(pos r.Pats).length=af r.Pats:=pE r.Pats
        unfold gK at hp
        simp only[gI,decide_eq_true_eq] at hp
        have:=hp.2.1.1
        omega
      have O:=IK o hinv t S
      have U:∀ w∈x.Rules,∀ L∈w.Levels,L.Toks.Nodup:=fun w hw L V=>by
        obtain⟨i,z,rfl⟩:=s0 hw
        have W:i < d.Rules.length:=by rw[← hinv.lr];exact z
        obtain⟨k,hk,rfl⟩:=s0 V
        have:=(t.rows i _ _ (hh W) (hh z) k _ (hh hk)).1.nd
        unfold jE at this
        exact List.Pairwise.imp (fun h e=>h (by rw[e])) (List.pairwise_map.1 this)
      refine⟨w7 m x,?_,?_⟩
      · rw[IS a d l,gf]
        unfold td
        rw[R,gf]
        have G:hU N d (cc d) s N (jP (cc d)).Alphas (jP (cc d)).Rules 0=_:=p.2
        rw[G,gf,HS a (cc d) m B,gf]
        cases P:rD (cc d) m with
        | false=>
          simp only[hG,if_true]
          cases X:w7 m x with
          | false=>rfl
          | true=>
            have:=Cm (n:=cc d) X
            rw[P,O] at this
            cases this
        | true=>
          simp only[hA,gh,if_false]
          have q:=P
          have b:=O
          unfold rD at q b
          simp only[gI,decide_eq_true_eq] at q b
          refine FU a m x B M (by rw[q.1.1,b.1.1]) (by rw[q.1.2,b.1.2]) (fun i v w g1 g2=>?_) U
          have Y:m.Rules[i]?=some v:=by rw[← kT];exact g1
          have Z:x.Rules[i]?=some w:=by rw[← kT];exact g2
          have hlen:∀ (cs:List aR) (ws:List aP),iU qg cs ws=true→∀ (i:Nat) (u:aP),ws[i]?=some u→∃ c,cs[i]?=some c∧u.Levels.length=c.Pos.length:=by
            intro cs
            induction cs with
            | nil=>
              intro ws h i u hu
              cases ws with
              | nil=>simp at hu
              | cons=>cases h
            | cons c cs ih=>
              intro ws h i u hu
              cases ws with
              | nil=>cases h
              | cons w ws=>
                simp only[iU,gI] at h
                cases i with
                | zero=>
                  simp only[zx,Option.some.injEq] at hu
                  subst hu
                  have H:=h.1
                  unfold qg at H
                  rw[gI,decide_eq_true_eq] at H
                  exact⟨c,rfl,H.1⟩
                | succ i=>
                  obtain⟨c',h1,y⟩:=ih ws h.2 i u (by simpa using hu)
                  exact⟨c',by simpa using h1,y⟩
          obtain⟨c1,f1,f2⟩:=hlen _ _ q.2 i v Y
          obtain⟨c2,f3,f4⟩:=hlen _ _ b.2 i w Z
          rw[f1] at f3
          cases f3
          rw[f2,f4]
      · unfold tj
        rw[Hx a d l,gf,Q,gf]
        have G:gZ N d s (cc d) N (jP (cc d)).Alphas (jP (cc d)).Rules 0=_:=p.1
        rw[G,gf,EG a m x B M]
        rfl
theorem KF (i:Int) (m:Nat) (h:m < 4611686018427387904):0≤xq .i64 i (m:Int)∧xq .i64 i (m:Int)≤(m:Int):=by
  unfold xq
  have h1:((BitVec.ofInt IntKind.i64.bits i) &&& (BitVec.ofInt IntKind.i64.bits (m:Int))).toNat≤m:=by
    rw[BitVec.toNat_and]
    have a:(BitVec.ofInt IntKind.i64.bits (m:Int)).toNat=m:=by
      rw[BitVec.toNat_ofInt]
      have:((2 ^ IntKind.i64.bits:Nat):Int)=18446744073709551616:=by decide
      rw[this,Int.emod_eq_of_lt MB MB]
      simp
    rw[a];exact Nat.and_le_right
  rw[wr MB MB]
  omega
theorem FA (i:Int):0≤xq .i64 i 255∧xq .i64 i 255≤255:=KF i 255 MB
def GC (b:List Int) (c:a8):Prop:=c.b=b∧0≤c.i∧c.i≤(b.length:Int)
theorem GC.re {b:List Int} {c d:a8} (h:GC b c) (a:d.b=b):GC b (⟨d.b,c.i,c.h⟩:a8):=⟨a,h.2⟩
theorem Hj {N:Nat} (e:1099000000000≤N) (b:List Int) (f:b.length≤1048576):∃ c,oI N b=some c∧GC b c:=by
  unfold oI
  have:∀ (n i:Nat) (h:Int),i≤b.length→b.length - i < n→∃ c,j9 N b n h i=some c∧GC b c:=by
    intro n
    induction n with
    | zero=>intro i h _ g;omega
    | succ n a=>
      intro i h j k
      simp only[j9]
      by_cases d:i < b.length
      · have c1:decide ((i:Int) < (b.length:Int))=true:=decide_eq_true MB
        simp only[c1,if_true,gf,an d,wr1 i MB]
        split
        · exact a (i+1) _ MB MB
        · exact⟨_,rfl,rfl,MC,MC⟩
      · have c1:decide ((i:Int) < (b.length:Int))=false:=decide_eq_false MB
        simp only[c1,gh,if_false,gf]
        exact⟨_,rfl,rfl,MC,MC⟩
  exact this N 0 _ MB MB
theorem wV {N:Nat} (b:List Int) (h:b.length≤1048576) (c:a8) (g:GC b c):∃ v d,jU N c=some (v,d)∧GC b d∧0≤v∧v≤255:=by
  obtain⟨rfl,e,h1⟩:=g
  unfold jU
  by_cases a:c.i < (c.b.length:Int)
  · obtain⟨i,f⟩:∃ i:Nat,c.i=(i:Int):=⟨c.i.toNat,MB⟩
    have c1:decide (c.i < (c.b.length:Int))=true:=decide_eq_true a
    rw[f] at e h1 a ⊢
    rw[f] at c1
    simp only[c1,if_true,an (show i < c.b.length by omega),gf,wr1 i MB]
    exact⟨_,_,rfl,⟨rfl,by simp;omega,by simp;omega⟩,FA _⟩
  · have c1:decide (c.i < (c.b.length:Int))=false:=decide_eq_false a
    simp only[c1,gh,if_false]
    exact⟨_,_,rfl,⟨rfl,e,h1⟩,FA _⟩
theorem FE {v n:Int} (a:0≤v) (b:0 < n):∃ r,EY v n=some r∧0≤r∧r < n:=by
  unfold EY
  rw[if_neg MB,Int.tmod_eq_emod_of_nonneg a]
  exact⟨_,rfl,Int.emod_nonneg _ MB,Int.emod_lt_of_pos _ b⟩
theorem Bz {N:Nat} (b:List Int) (f:b.length≤1048576) (c:a8) (a:GC b c) (n:Int):∃ v d,aV N c n=some (v,d)∧GC b d∧0≤v∧(0 < n→v < n)∧(n≤0→v=0):=by
  unfold aV
  by_cases l:n≤0
  · simp only[l,decide_true,if_true]
    exact⟨_,_,rfl,a,MB,MB,fun _=>rfl⟩
  · simp only[l,decide_false,gh,if_false]
    by_cases h1:n≤256
    · simp only[h1,decide_true,if_true]
      obtain⟨v,d,e,g,m,a2⟩:=wV (N:=N) b f c a
      obtain⟨r,i,j,k⟩:=FE m (show 0 < n by omega)
      simp only[e,gf,i]
      exact⟨_,_,rfl,g.re a.1 |> fun _=>⟨a.1,g.2⟩,j,fun _=>k,fun h=>h.elim⟩
    · simp only[h1,decide_false,gh,if_false]
      obtain⟨v1,d1,o,g1,m,s⟩:=wV (N:=N) b f c a
      simp only[o,gf]
      obtain⟨v2,d2,p,g2,a2,t⟩:=wV (N:=N) b f ⟨c.b,d1.i,d1.h⟩ ⟨a.1,g1.2⟩
      simp only[p,gf]
      obtain⟨v3,d3,q,g3,a3,u⟩:=wV (N:=N) b f ⟨c.b,d2.i,d2.h⟩ ⟨a.1,g2.2⟩
      simp only[q,gf]
      rw[wr (n:=v1*65536) MB MB,wr (n:=v2*256) MB MB,wr (n:=v1*65536+v2*256) MB MB,wr (n:=v1*65536+v2*256+v3) MB MB]
      obtain⟨r,i,j,k⟩:=FE (show 0≤v1*65536+v2*256+v3 by omega) (show 0 < n by omega)
      simp only[i,gf]
      exact⟨_,_,rfl,⟨a.1,g3.2⟩,j,fun _=>k,fun h=>h.elim⟩
theorem wrm {s:Int} (h:0 < s) (a:s≤4611686018427387904):IntKind.i64.wrap (s - 1)=s - 1:=wr MB MB
def Dr {α:Type} (b:List Int) (Q:α→Prop) (o:Option (α × a8)):Prop:=∃ v d,o=some (v,d)∧GC b d∧Q v
theorem Dr.bind {α β:Type} {b:List Int} {Q:α→Prop} {R:β→Prop} {o:Option (α × a8)} {f:α × a8→Option (β × a8)} (h:Dr b Q o) (k:∀ v d,GC b d→Q v→Dr b R (f (v,d))):Dr b R (o.bind f):=by
  obtain⟨v,d,rfl,g,q⟩:=h;exact k v d g q
theorem Dr.bindO {a β:Type} {b:List Int} {R:β→Prop} {x:a} {o:Option a} {f:a→Option (β × a8)} (h:o=some x) (k:Dr b R (f x)):Dr b R (o.bind f):=by
  rw[h];exact k
theorem Dr.ret {α:Type} {b:List Int} {Q:α→Prop} {v:α} {c:a8} (g:GC b c) (q:Q v):Dr b Q (some (v,c)):=⟨v,c,rfl,g,q⟩
theorem Dr.ite {α:Type} {b:List Int} {Q:α→Prop} {x y:Option (α × a8)} {p:Bool} (h1:p=true→Dr b Q x) (a:p=false→Dr b Q y):Dr b Q (if p=true then x else y):=by
  cases p with
  | true=>exact h1 rfl
  | false=>exact a rfl
theorem GC.at {b:List Int} {c d:a8} (g:GC b d) (h:c.b=b):GC b (⟨c.b,d.i,d.h⟩:a8):=⟨h,g.2⟩
theorem d8 {N:Nat} {b:List Int} (a:b.length≤1048576) {c:a8} (g:GC b c) (n:Int) (f:0 < n):Dr b (fun v=>0≤v∧v < n) (aV N c n):=by
  obtain⟨v,d,e,g,h1,h,-⟩:=Bz (N:=N) b a c g n
  exact⟨v,d,e,g,h1,h f⟩
theorem Bv {N:Nat} {b:List Int} (a:b.length≤1048576) {c:a8} (g:GC b c) (n:Int):Dr b (fun v=>0≤v∧(0 < n→v < n)) (aV N c n):=by
  obtain⟨v,d,e,g,h1,f,-⟩:=Bz (N:=N) b a c g n
  exact⟨v,d,e,g,h1,f⟩
theorem kX {α:Type} {xs a:List α} (h:xs.length≤4194304) (b:a.length≤4194304):app xs a=some (xs++a):=bD MB
theorem gG {α:Type} {P:α→Prop} {xs:List α} {x:α} (h:∀ a∈xs,P a) (b:P x):∀ a∈xs++[x],P a:=fun a c=>by
  rcases gb.1 c with h1 | h1
  · exact h a h1
  · simp at h1;rw[h1];exact b
theorem kV {N:Nat} {b:List Int} (a:b.length≤1048576) {c:a8} (g:GC b c) (n:Int):Dr b (fun _=>True) (cw N c n):=by
  unfold cw
  exact (Bv a g n).bind fun v d gd _=>.ret (gd.at g.1) trivial
theorem nA {N:Nat} {b:List Int} (a:b.length≤1048576) {c:a8} (g:GC b c) (l:List ByteArray) (h:0 < l.length):Dr b (fun s=>s∈l) (cH N c l):=by
  unfold cH
  refine (d8 a g (l.length:Int) MB).bind fun v d gd q=>?_
  obtain⟨j,rfl⟩:∃ j:Nat,v=(j:Int):=⟨v.toNat,MB⟩
  exact .bindO (an (show j < l.length by omega)) (.ret (gd.at g.1) (hz _))
def uS (v:bi):Prop:=(∃ n:Int,1≤n∧n≤3∧v=⟨1,n,⟨#[]⟩⟩)∨∃ s∈([⟨#[97]⟩,⟨#[98]⟩]:List ByteArray),v=⟨2,0,s⟩
theorem Av {N:Nat} {b:List Int} (a:b.length≤1048576) {c:a8} (g:GC b c):Dr b uS (jK N c):=by
  unfold jK
  refine (kV a g 2).bind fun v d gd _=>.ite (fun _=>?_) fun _=>?_
  · exact (d8 a (gd.at g.1) 3 MB).bind fun w e ge q=>.ret (ge.at g.1) (.inl ⟨_,by dsimp only;rw[wr MB MB];omega,by dsimp only;rw[wr MB MB];omega,rfl⟩)
  · exact (nA a (gd.at g.1) _ (by decide)).bind fun w e ge q=>.ret (ge.at g.1) (.inr ⟨w,q,rfl⟩)
theorem xK {v:bi} (h:uS v):v.S.size≤16:=by
  rcases h with ⟨n,_,_,rfl⟩ | ⟨s,a,rfl⟩
  · show (0:Nat)≤16;omega
  · exact (show ∀ s∈([⟨#[97]⟩,⟨#[98]⟩]:List ByteArray),s.size≤16 by decide) s a
def sf (a:bn):Prop:=a.S.size≤16∧a.V.S.size≤16
def BG (p:au):Prop:=p.Kind.size≤16∧p.Args.length≤16∧∀ a∈p.Args,sf a
def A0 (a:bn):Prop:=a=⟨3,⟨#[]⟩,⟨0,0,⟨#[]⟩⟩⟩∨(∃ v,uS v∧a=⟨2,⟨#[]⟩,v⟩)∨∃ s∈([⟨#[88]⟩,⟨#[89]⟩,⟨#[90]⟩,⟨#[88]⟩]:List ByteArray),a=⟨1,s,⟨0,0,⟨#[]⟩⟩⟩
theorem m4 {a:bn} (h:A0 a):sf a:=by
  rcases h with rfl | ⟨v,b,rfl⟩ | ⟨s,c,rfl⟩
  · exact⟨j3 _,j3 _⟩
  · exact⟨j3 _,xK b⟩
  · exact⟨(show ∀ s∈([⟨#[88]⟩,⟨#[89]⟩,⟨#[90]⟩,⟨#[88]⟩]:List ByteArray),s.size≤16 by decide) s c,j3 _⟩
theorem BR {N:Nat} {b:List Int} (a:b.length≤1048576) {c:a8} (g:GC b c):Dr b A0 (ko N c):=by
  unfold ko
  refine (d8 a g 6 MB).bind fun v d gd _=>.ite (fun _=>.ret (gd.at g.1) (.inl rfl)) fun _=>.ite (fun _=>?_) fun _=>?_
  · exact (Av a (gd.at g.1)).bind fun w e ge q=>.bindO rfl (.ret (ge.at g.1) (.inr (.inl ⟨w,q,rfl⟩)))
  · exact (nA a (gd.at g.1) _ (by decide)).bind fun w e ge q=>.bindO rfl (.ret (ge.at g.1) (.inr (.inr ⟨w,q,rfl⟩)))
def pW (n:Bool) (p:au):Prop:=p.Not=n∧p.Kind∈([⟨#[111,114,100,101,114]⟩,⟨#[112,97,105,100]⟩,⟨#[105,116,101,109]⟩,⟨#[111,114,100,101,114]⟩]:List ByteArray)∧p.Args.length≤2∧∀ a∈p.Args,A0 a
theorem Br {n:Bool} {p:au} (h:pW n p):BG p:=by
  obtain⟨_,h1,d,b⟩:=h
  exact⟨(show ∀ s∈([⟨#[111,114,100,101,114]⟩,⟨#[112,97,105,100]⟩,⟨#[105,116,101,109]⟩,⟨#[111,114,100,101,114]⟩]:List ByteArray),s.size≤16 by decide) _ h1,MB,fun a c=>m4 (b a c)⟩
theorem GP {N:Nat} (t:1099000000000≤N) {b:List Int} (l:b.length≤1048576) {c:a8} (g:GC b c) (f:Bool):Dr b (pW f) (kZ N c f):=by
  unfold kZ
  refine (nA l g _ (by decide)).bind fun k d gd hk=>?_
  have lp:∀ (m:Nat),m≤2→∀ (n i:Nat) (s:List bn) (x h:Int),i≤m→m - i < n→s.length=i→(∀ a∈s,A0 a)→GC b ⟨c.b,x,h⟩→Dr b (pW f) (jA N c f (k,d) (m:Int) n s (i:Int) x h):=by
    intro m hm n
    induction n with
    | zero=>intro i _ _ _ _ h;omega
    | succ n r=>
      intro i s x h u v w o j
      simp only[jA]
      refine .ite (fun p=>?_) (fun y=>.ret j ⟨rfl,hk,by dsimp only;omega,o⟩)
      have p:=of_decide_eq_true p
      refine (BR l j).bind fun a e ge q=>.bindO (kX MB MC) ?_
      rw[wr1 i MB]
      exact r (i+1) _ _ _ MB MB (by simp;omega) (gG o q) (ge.at (c:=⟨c.b,x,h⟩) j.1)
  exact .ite (fun _=>lp 2 MB N 0 [] _ _ MB MB rfl MC (gd.at g.1)) (fun _=>lp 1 MB N 0 [] _ _ MB MB rfl MC (gd.at g.1))
def AH (c:ce):Prop:=sf c.L∧sf c.R
def jC (a:bn):Prop:=(∃ v,uS v∧a=⟨2,⟨#[]⟩,v⟩)∨∃ s∈([⟨#[88]⟩,⟨#[89]⟩,⟨#[90]⟩,⟨#[88]⟩]:List ByteArray),a=⟨1,s,⟨0,0,⟨#[]⟩⟩⟩
theorem um {a:bn} (h:jC a):A0 a:=.inr h
theorem AN {N:Nat} {b:List Int} (a:b.length≤1048576) {c:a8} (g:GC b c):Dr b jC (lD N c):=by
  unfold lD
  refine (kV a g 3).bind fun v d gd _=>.ite (fun _=>?_) fun _=>?_
  · exact (Av a (gd.at g.1)).bind fun w e ge q=>.bindO rfl (.ret (ge.at g.1) (.inl ⟨w,q,rfl⟩))
  · exact (nA a (gd.at g.1) _ (by decide)).bind fun w e ge q=>.bindO rfl (.ret (ge.at g.1) (.inr ⟨w,(show ∀ s∈([⟨#[88]⟩,⟨#[89]⟩]:List ByteArray),s∈([⟨#[88]⟩,⟨#[89]⟩,⟨#[90]⟩,⟨#[88]⟩]:List ByteArray) by simp) w q,rfl⟩))
def Ga (c:ce):Prop:=1≤c.Op∧c.Op≤3∧jC c.L∧jC c.R
theorem Ej {c:ce} (h:Ga c):AH c:=⟨m4 (um h.2.2.1),m4 (um h.2.2.2)⟩
theorem Gq {N:Nat} {b:List Int} (a:b.length≤1048576) {c:a8} (g:GC b c):Dr b Ga (mV N c):=by
  unfold mV
  refine (d8 a g 3 MB).bind fun v d gd q=>(AN a (gd.at g.1)).bind fun l e ge h=>(AN a (ge.at g.1)).bind fun r f i qr=>.ret (i.at g.1) ⟨?_,?_,h,qr⟩
  · dsimp only;rw[wr MB MB];omega
  · dsimp only;rw[wr MB MB];omega
theorem C1 {N:Nat} {b:List Int} (a:b.length≤1048576) {c:a8} (g:GC b c) (l:List Int) (h:0 < l.length):Dr b (fun s=>s∈l) (kg N c l):=by
  unfold kg
  refine (d8 a g (l.length:Int) MB).bind fun v d gd q=>?_
  obtain⟨j,rfl⟩:∃ j:Nat,v=(j:Int):=⟨v.toNat,MB⟩
  exact .bindO (an (show j < l.length by omega)) (.ret (gd.at g.1) (hz _))
def CM (e:bY):Prop:=e.Op.size≤16∧sf e.L∧sf e.R
def DY (a:cA):Prop:=a.Name.size≤16∧a.Args.length≤16∧(∀ e∈a.Args,CM e)∧a.Undo.size≤16
def Df:bn:=⟨0,⟨#[]⟩,⟨0,0,⟨#[]⟩⟩⟩
def vg (T:bn→Prop) (e:bY):Prop:=T e.L∧((e.Op=⟨#[]⟩∧e.R=Df)∨e.Op∈([⟨#[43]⟩,⟨#[45]⟩]:List ByteArray)∧T e.R)
theorem FX {T:bn→Prop} (b:∀ a,T a→sf a) {e:bY} (h:vg T e):CM e:=by
  obtain⟨h1,⟨c,d⟩ | ⟨c,d⟩⟩:=h
  · exact⟨by rw[c];exact j3 _,b _ h1,by rw[d];exact⟨j3 _,j3 _⟩⟩
  · exact⟨(show ∀ s∈([⟨#[43]⟩,⟨#[45]⟩]:List ByteArray),s.size≤16 by decide) _ c,b _ h1,b _ d⟩
theorem JI {N:Nat} {b:List Int} (a:b.length≤1048576) {c:a8} (g:GC b c):Dr b (vg jC) (oP N c):=by
  unfold oP
  refine (AN a g).bind fun l d gd h=>(kV a (gd.at g.1) 4).bind fun v e ge _=>.ite (fun _=>?_) fun _=>?_
  · exact (nA a (ge.at g.1) _ (by decide)).bind fun o f i j=>(AN a (i.at g.1)).bind fun r k m qr=>.ret (m.at g.1) ⟨h,.inr ⟨j,qr⟩⟩
  · exact .ret (ge.at g.1) ⟨h,.inl ⟨rfl,rfl⟩⟩
def uV (T:bn→Prop) (pos:Int) (a:cA):Prop:=a.Args.length≤2∧(∀ e∈a.Args,vg T e) ∧
  ((a.Kind=2∧a.Name=⟨#[]⟩∧a.Args=[]∧0≤a.N∧(0 < pos→a.N < pos)∧a.Undo=⟨#[]⟩) ∨
   ((a.Kind=5∨a.Kind=6)∧a.Name=⟨#[]⟩∧a.Args=[]∧a.N=0∧a.Undo=⟨#[]⟩) ∨
   ((a.Kind=1∨a.Kind=3∨a.Kind=4)∧a.Name∈([⟨#[111,114,100,101,114]⟩,⟨#[112,97,105,100]⟩,⟨#[105,116,101,109]⟩,⟨#[115,104,105,112]⟩,⟨#[99,104,97,114,103,101]⟩]:List ByteArray) ∧
     (a.N=0∨a.Kind=4∧a.N∈([0,1,5,100000]:List Int))∧(a.Undo=⟨#[]⟩∨a.Kind=3∧a.Undo∈([⟨#[114,101,102,117,110,100]⟩,⟨#[99,97,110,99,101,108]⟩]:List ByteArray))))
theorem E1 {T:bn→Prop} (c:∀ a,T a→sf a) {pos:Int} {a:cA} (h:uV T pos a):DY a:=by
  obtain⟨h1,d,b⟩:=h
  refine⟨?_,MB,fun e he=>FX c (d e he),?_⟩
  · rcases b with h | h | h
    · rw[h.2.1];exact j3 _
    · rw[h.2.1];exact j3 _
    · exact (show ∀ s∈([⟨#[111,114,100,101,114]⟩,⟨#[112,97,105,100]⟩,⟨#[105,116,101,109]⟩,⟨#[115,104,105,112]⟩,⟨#[99,104,97,114,103,101]⟩]:List ByteArray),s.size≤16 by decide) _ h.2.1
  · rcases b with h | h | h
    · rw[h.2.2.2.2.2];exact j3 _
    · rw[h.2.2.2.2];exact j3 _
    · rcases h.2.2.2 with h | h
      · rw[h];exact j3 _
      · exact (show ∀ s∈([⟨#[114,101,102,117,110,100]⟩,⟨#[99,97,110,99,101,108]⟩]:List ByteArray),s.size≤16 by decide) _ h.2
theorem IU {N:Nat} (O:1099000000000≤N) {b:List Int} (j:b.length≤1048576) {c:a8} (g:GC b c) (pos:Int):Dr b (uV jC pos) (mU N c pos):=by
  unfold mU
  refine (C1 j g _ (by decide)).bind fun k d gd hk=>?_
  dsimp only
  by_cases p:k=2
  · refine .ite (fun _=>?_) (fun h=>absurd p (of_decide_eq_false h))
    exact (Bv j (gd.at g.1) pos).bind fun v e ge q=>.ret (ge.at g.1) ⟨MC,MC,.inl ⟨p,rfl,rfl,q.1,q.2,rfl⟩⟩
  refine .ite (fun h=>absurd (of_decide_eq_true h) p) (fun _=>?_)
  have z:∀ (nm:ByteArray) (d0:a8) (l:List bY) (n:Int) (q:Bool) (x h:Int),GC b ⟨c.b,x,h⟩→(q=true→k=3) →
      (∀ u,(u=(⟨#[]⟩:ByteArray)∨k=3∧u∈([⟨#[114,101,102,117,110,100]⟩,⟨#[99,97,110,99,101,108]⟩]:List ByteArray))→uV jC pos ⟨k,nm,l,n,u⟩)→Dr b (uV jC pos) (io N c (k,d) (nm,d0) l n q x h):=by
    intro nm d0 l n q x h f F hu
    unfold io
    refine .ite (fun G=>?_) (fun _=>.ret f (hu _ (.inl rfl)))
    exact (nA j f _ (by decide)).bind fun u e ge H=>.ret (ge.at (c:=⟨c.b,x,h⟩) f.1) (hu _ (.inr ⟨F G,H⟩))
  have A:∀ (nm:ByteArray) (d0:a8) (l:List bY) (n:Int) (x h:Int),GC b ⟨c.b,x,h⟩ →
      (∀ u,(u=(⟨#[]⟩:ByteArray)∨k=3∧u∈([⟨#[114,101,102,117,110,100]⟩,⟨#[99,97,110,99,101,108]⟩]:List ByteArray))→uV jC pos ⟨k,nm,l,n,u⟩)→Dr b (uV jC pos) (jl N c (k,d) (nm,d0) l x h n):=by
    intro nm d0 l n x h f hu
    unfold jl
    refine .ite (fun I=>?_) (fun _=>z _ _ _ _ _ _ _ f (fun h=>by simp at h) hu)
    exact (kV j f 2).bind fun u e ge _=>z _ _ _ _ _ _ _ (ge.at (c:=⟨c.b,x,h⟩) f.1) (fun _=>of_decide_eq_true I) hu
  have lp:∀ (nm:ByteArray) (d0:a8),nm∈([⟨#[111,114,100,101,114]⟩,⟨#[112,97,105,100]⟩,⟨#[105,116,101,109]⟩,⟨#[115,104,105,112]⟩,⟨#[99,104,97,114,103,101]⟩]:List ByteArray)→(k=1∨k=3∨k=4) →
      ∀ (m:Nat),m≤2→∀ (n i:Nat) (s:List bY) (x h:Int),i≤m→m - i < n→s.length=i→(∀ a∈s,vg jC a)→GC b ⟨c.b,x,h⟩→Dr b (uV jC pos) (jx N c (k,d) (nm,d0) (m:Int) n s (i:Int) x h):=by
    intro nm d0 o B m hm n
    induction n with
    | zero=>intro i _ _ _ _ h;omega
    | succ n K=>
      intro i s x h P Q R r f
      simp only[jx]
      refine .ite (fun C=>?_) (fun S=>.ite (fun t=>?_) (fun _=>?_))
      · have C:=of_decide_eq_true C
        refine (JI j f).bind fun a e ge q=>.bindO (kX MB MC) ?_
        rw[wr1 i MB]
        exact K (i+1) _ _ _ MB MB (by simp;omega) (gG r q) (ge.at (c:=⟨c.b,x,h⟩) f.1)
      · have t:k=4:=of_decide_eq_true t
        exact (C1 j f _ (by decide)).bind fun v e ge q=>A _ _ _ _ _ _ (ge.at (c:=⟨c.b,x,h⟩) f.1) fun u hu=>⟨by dsimp only;omega,r,.inr (.inr ⟨B,o,.inr ⟨t,q⟩,hu⟩)⟩
      · exact A _ _ _ _ _ _ f fun u hu=>⟨by dsimp only;omega,r,.inr (.inr ⟨B,o,.inl rfl,hu⟩)⟩
  have T:Dr b (uV jC pos) (dv N c (k,d) true)→k=5∨k=6→Dr b (uV jC pos) (dv N c (k,d) true):=fun h _=>h
  have D:k=5∨k=6→Dr b (uV jC pos) (dv N c (k,d) true):=by
    intro L
    unfold dv
    simp only[if_true]
    exact .ret (gd.at g.1) ⟨MC,MC,.inr (.inl ⟨L,rfl,rfl,rfl,rfl⟩)⟩
  have M:k=1∨k=3∨k=4→Dr b (uV jC pos) (dv N c (k,d) false):=by
    intro E
    unfold dv
    simp only[gh,if_false]
    refine (nA j (gd.at g.1) _ (by decide)).bind fun nm e ge o=>?_
    unfold jy
    exact .ite (fun _=>lp nm e o E 2 MB N 0 [] _ _ MB MB rfl MC (ge.at g.1)) (fun _=>lp nm e o E 1 MB N 0 [] _ _ MB MB rfl MC (ge.at g.1))
  have U:k=1∨k=3∨k=4∨k=5∨k=6:=by
    simp at hk;omega
  by_cases w:k=5
  · rw[decide_eq_true w];simp only[if_true];exact D (.inl w)
  · rw[decide_eq_false w];simp only[gh,if_false]
    by_cases y:k=6
    · rw[decide_eq_true y];exact D (.inr y)
    · rw[decide_eq_false y];exact M MB
def vS (r:ai):Prop:=r.Name.size≤16∧(r.Pats.length≤16∧∀ p∈r.Pats,BG p)∧(r.Conds.length≤16∧∀ c∈r.Conds,AH c)∧r.Acts.length≤16∧∀ a∈r.Acts,DY a
def gX (vs:List ByteArray) (a:bn):Prop:=(∃ v,uS v∧a=⟨2,⟨#[]⟩,v⟩)∨∃ s∈vs,a=⟨1,s,⟨0,0,⟨#[]⟩⟩⟩
theorem B4 {N:Nat} (d:1099000000000≤N) {vs:List ByteArray} (b:vs.length≤4194304) {a:bn} (h:jC a):∃ c,lj N a vs=some c∧gX vs c:=by
  unfold lj
  rw[AL d a vs MB,gf]
  rcases h with ⟨v,b,rfl⟩ | ⟨s,j,rfl⟩
  · exact⟨_,by simp[iO],.inl ⟨v,b,rfl⟩⟩
  · by_cases hm:s∈vs
    · exact⟨_,by simp[iO,hm],.inr ⟨s,hm,rfl⟩⟩
    · have e:iO vs ⟨1,s,⟨0,0,⟨#[]⟩⟩⟩=false:=by simp[iO,hm]
      simp only[e,gh,if_false]
      cases vs with
      | nil=>exact⟨_,rfl,.inl ⟨⟨1,1,⟨#[]⟩⟩,.inl ⟨1,MB,MB,rfl⟩,rfl⟩⟩
      | cons x t=>
        have f:decide (((x :: t).length:Int)=0)=false:=decide_eq_false (by simp only[gx];omega)
        have g:idx (x :: t) 0=some x:=an (xs:=x :: t) (i:=0) MC
        simp only[f,gh,if_false,g,gf]
        exact⟨_,rfl,.inr ⟨x,MC,rfl⟩⟩
theorem CZ {vs:List ByteArray} (b:∀ s∈vs,s.size≤16) {a:bn} (h:gX vs a):sf a:=by
  rcases h with ⟨v,h,rfl⟩ | ⟨s,h,rfl⟩
  · exact⟨j3 _,xK h⟩
  · exact⟨b s h,j3 _⟩
def kz (l:List au):Prop:=∃ ps ns,l=ps++ns∧1≤ps.length∧ps.length≤3∧ns.length≤1∧(∀ p∈ps,pW false p)∧∀ p∈ns,pW true p
theorem oT {l:List au} (h:kz l):∀ p∈l,∃ n,pW n p:=by
  obtain⟨ps,ns,rfl,-,-,-,h1,a⟩:=h
  intro p hp
  rcases gb.1 hp with h | h
  · exact⟨_,h1 p h⟩
  · exact⟨_,a p h⟩
theorem pb {l:List au} (h:kz l):1≤l.length∧l.length≤4:=by
  obtain⟨ps,ns,rfl,h1,a,b,-⟩:=h
  rw[hd];omega
theorem xz {B:Nat}:∀ {l:List au},(∀ p∈l,p.Args.length≤B)→jQ l≤l.length*B
  | [],_=>by simp[jQ]
  | p :: t,h=>by
    have h1:=xz (l:=t) fun q a=>h q (by simp[a])
    have c:=h p MC
    have b:jQ (p :: t)=p.Args.length+jQ t:=by simp[jQ]
    rw[b,gx,hI];omega
theorem wj {l:List au} (h:kz l):jQ l≤8:=by
  have h1:=xz (B:=2) fun p hp=>(oT h p hp).elim fun n a=>a.2.2.1
  have:=pb h
  omega
theorem B5 {B:Nat} {l:List bn} (h:∀ a∈l,a.S.size≤B):∀ x∈cM l,x.size≤B:=fun x b=>by
  obtain⟨a,c,_,rfl⟩:=nQ.1 b;exact h a c
theorem qA {B:Nat}:∀ {l:List au},(∀ p∈l,∀ a∈p.Args,a.S.size≤B)→∀ x∈cN l,x.size≤B
  | [],_,x,b=>by simp[cN] at b
  | p :: t,h,x,b=>by
    unfold cN at b
    split at b
    · exact qA (fun q c=>h q (by simp[c])) x b
    · rcases gb.1 b with b | b
      · exact B5 (h p MC) x b
      · exact qA (fun q c=>h q (by simp[c])) x b
def bnd (l:List au):List ByteArray:=(cN l).foldl dj []
theorem Js {l:List au} (h:kz l):∀ s∈bnd l,s.size≤16:=Cp (qA fun p hp a b=>(oT h p hp).elim fun n c=>(m4 (c.2.2.2 a b)).1) MC
theorem DK {l:List au} (h:kz l):(bnd l).length≤8:=by
  have h1:=lH (cN l) []
  have a:=rN l
  have b:=wj h
  simp only[ha] at h1
  unfold bnd;omega
def pI (nm:ByteArray) (r:ai):Prop:=r.Name=nm∧r.Sal∈([0,0,5,(-5),100]:List Int)∧kz r.Pats∧(r.Conds.length≤1∧∀ c∈r.Conds,1≤c.Op∧c.Op≤3∧gX (bnd r.Pats) c.L∧gX (bnd r.Pats) c.R) ∧
  (1≤r.Acts.length∧r.Acts.length≤3∧∀ a∈r.Acts,uV (gX (bnd r.Pats)) (af r.Pats) a)
theorem zX {nm:ByteArray} {r:ai} (b:nm.size≤16) (h:pI nm r):vS r:=by
  obtain⟨h1,_,d,⟨j,g⟩,h5,h6,h7⟩:=h
  have e:∀ a,gX (bnd r.Pats) a→sf a:=fun a f=>CZ (Js d) f
  have:=pb d
  exact⟨by rw[h1];exact b,⟨MB,fun p hp=>(oT d p hp).elim fun n b=>Br b⟩,⟨MB,fun c i=>⟨e _ (g c i).2.2.1,e _ (g c i).2.2.2⟩⟩,MB,fun a f=>E1 e (h7 a f)⟩
theorem M1 {N:Nat} (k:1099000000000≤N) {b:List Int} {vs:List ByteArray} (l:vs.length≤4194304) (f:List cA) (g:Int) (K:List cA→Int→Int→Int→Option (ai × a8)) (c:cA × a8) {R:ai→Prop} {m:Nat} (hm:m≤4194304)
    (u:∀ es:List bY,es.length=m→(∀ e∈es,vg (gX vs) e)→Dr b R ((app f [⟨c.1.Kind,c.1.Name,es,c.1.N,c.1.Undo⟩]).bind fun v=>K v (IntKind.i64.wrap (g - 1)) c.2.i c.2.h)) :
    ∀ (n:Nat) (todo done:List bY),todo.length < n→done.length+todo.length=m→(∀ e∈done,vg (gX vs) e)→(∀ e∈todo,vg jC e)→Dr b R (gi N vs f g K c n (done++todo) (done.length:Int)):=by
  intro n
  induction n with
  | zero=>intro _ _ h;omega
  | succ n w=>
    intro todo done x o p q
    simp only[gi]
    cases todo with
    | nil=>
      have i:decide ((done.length:Int) < ((done++([]:List bY)).length:Int))=false:=decide_eq_false MC
      rw[i]
      simp only[gh,if_false,mx]
      exact u done (by simpa using o) p
    | cons e t=>
      have i:decide ((done.length:Int) < ((done++e :: t).length:Int))=true:=decide_eq_true (by simp;omega)
      have z:idx (done++e :: t) (done.length:Int)=some e:=by
        rw[an (show done.length < (done++e :: t).length by simp)];simp
      have A:∀ y,(done++e :: t).set ((done.length:Int)).toNat y=(done++[y])++t:=fun y=>by
        rw[hX,vx _ _ (Nat.le_refl _)];simp
      simp only[gx] at x o
      rw[i]
      simp only[if_true]
      refine .bindO z ?_
      obtain⟨B,d⟩:=q e MC
      obtain⟨l',el,r⟩:=B4 k l B
      refine .bindO el ?_
      have next:∀ y,vg (gX vs) y→Dr b R (gi N vs f g K c n ((done++e :: t).set ((done.length:Int)).toNat y) (IntKind.i64.wrap ((done.length:Int)+1))):=by
        intro y C
        rw[A,wr1 _ MB]
        have:=w t (done++[y]) MB (by simp;omega) (gG p C) (fun a D=>q a (by simp[D]))
        simpa using this
      rcases d with ⟨hO,d⟩ | ⟨hO,d⟩
      · have j:(!seq e.Op ⟨#[]⟩)=false:=by rw[kA,hO];simp
        rw[j]
        exact next _ ⟨r,.inl ⟨hO,d⟩⟩
      · have j:(!seq e.Op ⟨#[]⟩)=true:=by
          have:e.Op≠⟨#[]⟩:=(show ∀ s∈([⟨#[43]⟩,⟨#[45]⟩]:List ByteArray),s≠⟨#[]⟩ by decide) _ hO
          rw[kA];simp[this]
        rw[j]
        obtain⟨G,E,F⟩:=B4 k l d
        exact .bindO E (next _ ⟨r,.inr ⟨hO,F⟩⟩)
theorem EU {N:Nat} (a:1099000000000≤N) (r:ai) (h:kz r.Pats):iN N r=some (bnd r.Pats):=by
  have h1:=pb h
  have c:=wj h
  exact zl a r MB MB fun p hp=>by
    obtain⟨n,b⟩:=oT h p hp
    have:=b.2.2.1
    omega
theorem Hk {N:Nat} (o:1099000000000≤N) {b:List Int} (l:b.length≤1048576) {c:a8} (g:GC b c) (nm:ByteArray):Dr b (pI nm) (mG N c nm):=by
  unfold mG
  refine (C1 l g _ (by decide)).bind fun u d gd F=>(d8 l (gd.at g.1) 3 MB).bind fun v0 Q G S=>?_
  -- the acts
  have H:∀ (i:List au) (conds:List ce),kz i→(conds.length≤1∧∀ c∈conds,1≤c.Op∧c.Op≤3∧gX (bnd i) c.L∧gX (bnd i) c.R) →
      ∀ (n:Nat) (s:List cA) (k x h:Int),0≤k→k < n→1≤s.length+k→s.length+k≤3→(∀ a∈s,uV (gX (bnd i)) (af i) a)→GC b ⟨c.b,x,h⟩→Dr b (pI nm) (gg N c nm (u,d) i (bnd i) conds n s k x h):=by
    intro i conds hp w n
    have T:=pb hp
    induction n with
    | zero=>intro s k x h y h1;omega
    | succ n z=>
      intro s k x h y h1 I K B j
      simp only[gg]
      refine .ite (fun hk=>?_) (fun hk=>?_)
      · have hk:=of_decide_eq_true hk
        refine .bindO (vk o _ (show i.length≤1048576 by omega)) ((IU o l j _).bind fun a f r A=>?_)
        have U:=A.1
        have:=M1 o (b:=b) (vs:=bnd i) (by have:=DK hp;omega) s k (gg N c nm (u,d) i (bnd i) conds n) (a,f) (R:=pI nm) (m:=a.Args.length) MB (fun es t he=>by
          refine .bindO (kX MB MC) ?_
          rw[wrm hk MB]
          refine z _ (k - 1) _ _ MB MB (by simp;omega) (by simp;omega) (gG B ?_) (r.at (c:=⟨c.b,x,h⟩) j.1)
          refine⟨by dsimp only;omega,he,?_⟩
          rcases A.2.2 with h | h | h
          · exact .inl ⟨h.1,h.2.1,by have:=h.2.2.1;rw[this] at t;exact q6 t,h.2.2.2⟩
          · exact .inr (.inl ⟨h.1,h.2.1,by have:=h.2.2.1;rw[this] at t;exact q6 t,h.2.2.2⟩)
          · exact .inr (.inr h)) N a.Args [] MB MC MC A.2.1
        exact this
      · have hk:=of_decide_eq_false hk
        exact .ret j ⟨rfl,F,hp,w,by dsimp only;omega,by dsimp only;omega,B⟩
  have C:∀ (i:List au) (conds:List ce),kz i→(conds.length≤1∧∀ c∈conds,1≤c.Op∧c.Op≤3∧gX (bnd i) c.L∧gX (bnd i) c.R)→∀ (x h:Int),GC b ⟨c.b,x,h⟩→Dr b (pI nm) (jr N c nm (u,d) i (bnd i) conds x h):=by
    intro i conds hp w x h j
    unfold jr
    refine (d8 l j 3 MB).bind fun v e ge q=>?_
    dsimp only
    rw[wr (show -9223372036854775808≤1+v by omega) MB]
    exact H i conds hp w N [] _ _ _ MB MB (by simp;omega) (by simp;omega) MC (ge.at (c:=⟨c.b,x,h⟩) j.1)
  have D:∀ (i:List au),kz i→∀ (x h:Int),GC b ⟨c.b,x,h⟩→Dr b (pI nm) (jk N c nm (u,d) i x h):=by
    intro i hp x h j
    unfold jk
    have E:(bnd i).length≤4194304:=by have:=DK hp;omega
    refine .bindO (EU o _ hp) ((kV l j 3).bind fun v e ge _=>.ite (fun _=>?_) (fun _=>?_))
    · refine (Gq l (ge.at (c:=⟨c.b,x,h⟩) j.1)).bind fun cd f r qc=>?_
      obtain⟨l',el,t⟩:=B4 o E qc.2.2.1
      obtain⟨V,L,M⟩:=B4 o E qc.2.2.2
      refine .bindO el (.bindO L (.bindO (kX MC MC) ?_))
      exact C i _ hp ⟨MC,by simp;exact⟨qc.1,qc.2.1,t,M⟩⟩ _ _ (r.at (c:=⟨c.b,x,h⟩) j.1)
    · exact C i [] hp ⟨MC,MC⟩ _ _ (ge.at (c:=⟨c.b,x,h⟩) j.1)
  have O:∀ (n:Nat) (s:List au) (k x h:Int),0≤k→k < n→1≤s.length+k→s.length+k≤3→(∀ p∈s,pW false p)→GC b ⟨c.b,x,h⟩→Dr b (pI nm) (jw N c nm (u,d) n s k x h):=by
    intro n
    induction n with
    | zero=>intro s k x h y h1;omega
    | succ n z=>
      intro s k x h y h1 I K hp j
      simp only[jw]
      refine .ite (fun hk=>?_) (fun hk=>?_)
      · have hk:=of_decide_eq_true hk
        refine (GP o l j false).bind fun p f r qp=>.bindO (kX MB MC) ?_
        rw[wrm hk MB]
        exact z _ (k - 1) _ _ MB MB (by simp;omega) (by simp;omega) (gG hp qp) (r.at (c:=⟨c.b,x,h⟩) j.1)
      · have hk:=of_decide_eq_false hk
        refine (kV l j 3).bind fun v f r _=>.ite (fun _=>?_) (fun _=>?_)
        · refine (GP o l (r.at (c:=⟨c.b,x,h⟩) j.1) true).bind fun p W P qp=>.bindO (kX MB MC) ?_
          exact D _ ⟨s,[p],rfl,MB,MB,MC,hp,by simpa using qp⟩ _ _ (P.at (c:=⟨c.b,x,h⟩) j.1)
        · exact D _ ⟨s,[],MC,MB,MB,MC,hp,MC⟩ _ _ (r.at (c:=⟨c.b,x,h⟩) j.1)
  dsimp only
  rw[wr (show -9223372036854775808≤1+v0 by omega) MB]
  exact O N [] _ _ _ MB MB (by simp;omega) (by simp;omega) MC (G.at g.1)
theorem C9 {v:bi} (h:uS v):rp v=true:=by
  rcases h with ⟨n,h1,c,rfl⟩ | ⟨s,a,rfl⟩
  · have b:decide (-1000000000≤n)=true:=decide_eq_true MB
    have a2:decide (n≤1000000000)=true:=decide_eq_true MB
    unfold rp
    simp only[if_true,b,a2,kI,LL]
  · exact (show ∀ s∈([⟨#[97]⟩,⟨#[98]⟩]:List ByteArray),rp ⟨2,0,s⟩=true by decide) s a
def xyz:List ByteArray:=[⟨#[88]⟩,⟨#[89]⟩,⟨#[90]⟩,⟨#[88]⟩]
theorem A9:∀ s∈xyz,lG ⟨1,s,⟨0,0,⟨#[]⟩⟩⟩=true:=fun s a=>by
  unfold lG
  simp only[if_true,hP,decide_true,Bool.and_true]
  exact (show ∀ s∈xyz,A6 s=true by decide) s a
theorem Ec:lG ⟨3,⟨#[]⟩,⟨0,0,⟨#[]⟩⟩⟩=true:=by
  unfold lG
  simp[kI,hP]
theorem Aa {v:bi} (h:uS v):lG ⟨2,⟨#[]⟩,v⟩=true:=by
  unfold lG
  simp only[show ¬ (2:Int)=1 by omega,if_false,if_true,C9 h,kI,LL]
theorem H7 {a:bn} (h:A0 a):lG a=true:=by
  rcases h with rfl | ⟨v,b,rfl⟩ | ⟨s,c,rfl⟩
  · exact Ec
  · exact Aa b
  · exact A9 s c
theorem BI {n:Bool} {p:au} (h:pW n p):lA p=true:=by
  obtain⟨_,h1,e,b⟩:=h
  have c:=(show ∀ s∈([⟨#[111,114,100,101,114]⟩,⟨#[112,97,105,100]⟩,⟨#[105,116,101,109]⟩,⟨#[111,114,100,101,114]⟩]:List ByteArray),dU s=true by decide) _ h1
  unfold lA
  rw[c,decide_eq_true MB,l4.2 fun a d=>H7 (b a d)];rfl
theorem rY:∀ (u v:List au),af (u++v)=af u+af v
  | [],v=>by simp[af]
  | p :: t,v=>by
    have a:af (p :: (t++v))=if p.Not then af (t++v) else af (t++v)+1:=rfl
    have b:af (p :: t)=if p.Not then af t else af t+1:=rfl
    rw[hW,a,b,rY t v];split <;> omega
theorem sE:∀ (v:List au),(∀ p∈v,pW true p)→af v=0
  | [],_=>rfl
  | p :: t,h=>by
    unfold af
    rw[(h p MC).1,if_pos rfl]
    exact sE t fun q a=>h q (by simp[a])
theorem rV:∀ (v:List au),(∀ p∈v,pW false p)→af v=v.length
  | [],_=>rfl
  | p :: t,h=>by
    unfold af
    rw[(h p MC).1,rV t fun q a=>h q (by simp[a])];simp
theorem w6 (c:Nat):∀ (v:List au) (i:Nat),c≤i→(∀ p∈v,pW true p)→eh c i v=true
  | [],i,_,_=>rfl
  | p :: t,i,a,h=>by
    unfold eh
    rw[BI (h p MC),(h p MC).1,decide_eq_true a,w6 c t (i+1) MB fun q b=>h q (by simp[b])];rfl
theorem uF (c:Nat) (w:List au) (hw:∀ p∈w,pW true p):∀ (v:List au) (i:Nat),i+v.length=c→(∀ p∈v,pW false p)→eh c i (v++w)=true
  | [],i,a,_=>w6 c w i (by simp at a;omega) hw
  | p :: t,i,a,h=>by
    simp only[gx] at a
    rw[hW]
    unfold eh
    rw[BI (h p MC),(h p MC).1,decide_eq_false MB,uF c w hw t (i+1) MB fun q b=>h q (by simp[b])];rfl
theorem vj {l:List au} (h:kz l):1≤af l∧af l≤3:=by
  obtain⟨ps,ns,rfl,h1,c,d,a,b⟩:=h
  rw[rY,sE ns b,rV ps a];omega
theorem Eh {l:List au} (h:kz l):gK l=true:=by
  have a:=vj h
  obtain⟨ps,ns,rfl,h1,d,f,b,c⟩:=h
  have e:af (ps++ns)=ps.length:=by rw[rY,sE ns c,rV ps b];omega
  unfold gK
  rw[e] at a ⊢
  rw[uF _ ns c ps 0 MB b,decide_eq_true a.1,decide_eq_true a.2,hd,decide_eq_true (show 1≤ps.length+ns.length by omega),decide_eq_true (show ps.length+ns.length≤6 by omega)];rfl
theorem IE {l:List au} (h:kz l):∀ s∈bnd l,s∈xyz:=by
  intro s b
  have b:=(ru.1 b).resolve_left MC
  have:∀ (l:List au),(∀ p∈l,∃ n,pW n p)→s∈cN l→s∈xyz:=by
    intro l
    induction l with
    | nil=>intro _ h;simp[cN] at h
    | cons p t d=>
      intro hp hm
      unfold cN at hm
      split at hm
      · exact d (fun q c=>hp q (by simp[c])) hm
      · rcases gb.1 hm with hm | hm
        · obtain⟨a,e,hk,rfl⟩:=nQ.1 hm
          obtain⟨n,f⟩:=hp p MC
          rcases f.2.2.2 a e with rfl | ⟨v,i,rfl⟩ | ⟨j,g,rfl⟩
          · simp at hk
          · simp at hk
          · exact g
        · exact d (fun q c=>hp q (by simp[c])) hm
  exact this l (oT h) b
theorem tc {l:List au} (h:kz l) {a:bn} (c:gX (bnd l) a):qM a=true∧iO (bnd l) a=true:=by
  rcases c with ⟨v,d,rfl⟩ | ⟨s,b,rfl⟩
  · refine⟨?_,by simp[iO]⟩
    unfold qM
    rw[Aa d];rfl
  · refine⟨?_,by simp[iO,b]⟩
    unfold qM
    rw[A9 s (IE h s b)];rfl
theorem Ha:nB Df ⟨0,⟨#[]⟩,⟨0,0,⟨#[]⟩⟩⟩=true:=by rw[B7];exact decide_eq_true rfl
theorem Bm (vs:List ByteArray):iO vs Df=true:=by simp[iO,Df]
theorem DI {l:List au} (h:kz l) {e:bY} (he:vg (gX (bnd l)) e):jI e=true∧nc (bnd l) e=true:=by
  obtain⟨h1,c⟩:=he
  obtain⟨g1,d⟩:=tc h h1
  unfold jI nc
  rw[d,g1]
  rcases c with ⟨a,b⟩ | ⟨a,b⟩
  · rw[a,b,Ha,Bm]
    exact⟨by simp[kI],rfl⟩
  · obtain⟨g2,f⟩:=tc h b
    rw[g2,f]
    refine⟨?_,rfl⟩
    have:=(show ∀ s∈([⟨#[43]⟩,⟨#[45]⟩]:List ByteArray),seq s ⟨#[]⟩=false∧(seq s ⟨#[43]⟩ || seq s ⟨#[45]⟩)=true by simp only[kA];decide) _ a
    rw[this.1,this.2];rfl
theorem Kk {l:List au} (h:kz l) {a:cA} (m:uV (gX (bnd l)) (af l) a):oX a=true∧pi (bnd l) (af l) a=true:=by
  obtain⟨h1,g,i⟩:=m
  have t:=vj h
  have o:a.Args.all jI=true:=l4.2 fun e he=>(DI h (g e he)).1
  have p:a.Args.all (nc (bnd l))=true:=l4.2 fun e he=>(DI h (g e he)).2
  have q:decide ((a.Args.length:Int)≤5)=true:=decide_eq_true MB
  have ok:oX a=true:=by
    unfold oX
    simp only[o,q]
    rcases i with ⟨k,n,as,b,d,u⟩ | ⟨k,n,as,c,u⟩ | ⟨k,nm,b,u⟩
    · have d:=d MB
      rw[k,n,as,u,decide_eq_true b,decide_eq_true (show a.N≤7 by omega)]
      simp[kI]
    · rw[n,as,u,c]
      rcases k with k | k <;> rw[k] <;> simp[kI]
    · have r:=(show ∀ s∈([⟨#[111,114,100,101,114]⟩,⟨#[112,97,105,100]⟩,⟨#[105,116,101,109]⟩,⟨#[115,104,105,112]⟩,⟨#[99,104,97,114,103,101]⟩]:List ByteArray),dU s=true by decide) _ nm
      rw[r]
      rcases k with k | k | k
      · have c:a.N=0:=b.resolve_right (fun h=>by have:=h.1;omega)
        have f:a.Undo=⟨#[]⟩:=u.resolve_right (fun h=>by have:=h.1;omega)
        rw[k,c,f];simp[kI]
      · have c:a.N=0:=b.resolve_right (fun h=>by have:=h.1;omega)
        rw[k,c]
        rcases u with u | ⟨_,u⟩
        · rw[u];simp[kI]
        · have:=(show ∀ s∈([⟨#[114,101,102,117,110,100]⟩,⟨#[99,97,110,99,101,108]⟩]:List ByteArray),dU s=true by decide) _ u
          rw[this];simp
      · have f:a.Undo=⟨#[]⟩:=u.resolve_right (fun h=>by have:=h.1;omega)
        have j:0≤a.N∧a.N≤100000:=by
          rcases b with b | ⟨_,b⟩
          · omega
          · simp at b;omega
        rw[k,f,decide_eq_true j.1,decide_eq_true j.2];simp[kI]
  refine⟨ok,?_⟩
  unfold pi
  rw[ok,p]
  have:(decide (a.Kind=2) && decide ((af l:Int)≤a.N))=false:=by
    rcases i with ⟨k,n,as,b,d,u⟩ | ⟨k,n,as,c,u⟩ | ⟨k,nm,b,u⟩
    · have d:=d MB
      rw[decide_eq_false (show ¬ (af l:Int)≤a.N by omega)];simp
    · rw[decide_eq_false MB];rfl
    · rw[decide_eq_false MB];rfl
  rw[this];rfl
theorem Iq0 {nm:ByteArray} (f:dU nm=true) {r:ai} (h:pI nm r):im r=true:=by
  obtain⟨h1,h2,h3,⟨n,g⟩,h5,h6,h7⟩:=h
  have i:iw r=bnd r.Pats:=rfl
  have e : -100≤r.Sal∧r.Sal≤100:=by simp at h2;omega
  have b:r.Conds.all (ox (bnd r.Pats))=true:=l4.2 fun c b=>by
    obtain⟨c1,c2,j,k⟩:=g c b
    obtain⟨g1,l⟩:=tc h3 j
    obtain⟨g2,m⟩:=tc h3 k
    unfold ox pj
    rw[g1,g2,l,m,decide_eq_true c1,decide_eq_true c2];rfl
  have d:r.Acts.all (pi (bnd r.Pats) (af r.Pats))=true:=l4.2 fun a d=>(Kk h3 (h7 a d)).2
  unfold im
  rw[h1,f,i,Eh h3,b,d,decide_eq_true e.1,decide_eq_true e.2,decide_eq_true (show r.Conds.length≤6 by omega),decide_eq_true h5,decide_eq_true (show r.Acts.length≤6 by omega)];rfl
def BP (d:bo):Prop:=d.Name.size≤16∧d.Rules.length≤16∧∀ r∈d.Rules,vS r
def mB:List ByteArray:=[⟨#[114,49]⟩,⟨#[114,50]⟩,⟨#[114,51]⟩,⟨#[114,52]⟩]
def Bq (d:bo):Prop:=d.Name∈([⟨#[102,108,111,119]⟩,⟨#[115,104,105,112]⟩,⟨#[120]⟩]:List ByteArray)∧1≤d.Rules.length∧d.Rules.length≤4∧∀ (i:Nat) (r:ai),d.Rules[i]?=some r→∃ nm,mB[i]?=some nm∧pI nm r
theorem zA:∀ s∈mB,s.size≤16:=by decide
theorem xT {d:bo} (h:Bq d):BP d:=by
  obtain⟨h1,j,k,a⟩:=h
  refine⟨(show ∀ s∈([⟨#[102,108,111,119]⟩,⟨#[115,104,105,112]⟩,⟨#[120]⟩]:List ByteArray),s.size≤16 by decide) _ h1,MB,fun r b=>?_⟩
  obtain⟨i,c,e⟩:=s0 b
  obtain⟨nm,f,g⟩:=a i r (by rw[hh c,e])
  exact zX (zA nm (jt f)) g
theorem Fu {N:Nat} (t:1099000000000≤N) {b:List Int} (l:b.length≤1048576) {c:a8} (g:GC b c):Dr b Bq (jY N c):=by
  unfold jY
  refine (nA l g _ (by decide)).bind fun nm d gd u=>?_
  have lp:∀ (n i:Nat) (s:List ai) (x h:Int),i≤4→4 - i < n→s.length=i→(∀ (j:Nat) (r:ai),s[j]?=some r→∃ nm,mB[j]?=some nm∧pI nm r)→GC b ⟨c.b,x,h⟩→Dr b Bq (iF N c (nm,d) n s (i:Int) x h):=by
    intro n
    induction n with
    | zero=>intro i _ _ _ _ h;omega
    | succ n w=>
      intro i s x h F G H o k
      simp only[iF]
      refine (d8 l k 4 MB).bind fun v e ge q=>?_
      dsimp only
      rw[wr (show -9223372036854775808≤1+v by omega) MB]
      by_cases h1:(i:Int) < 1+v∧i < 4
      · have m:decide ((i:Int) < 1+v)=true:=decide_eq_true h1.1
        have y:decide ((i:Int) < 4)=true:=decide_eq_true MB
        have z:idx mB (i:Int)=some (mB[i]'(by unfold mB;simp;omega)):=an (by unfold mB;simp;omega)
        simp only[m,y,if_true,gf]
        refine .bindO z ((Hk t l (ge.at (c:=⟨c.b,x,h⟩) k.1) _).bind fun r f A qr=>.bindO (kX MB MC) ?_)
        rw[wr1 i MB]
        refine w (i+1) _ _ _ MB MB (by simp;omega) ?_ (A.at (c:=⟨c.b,x,h⟩) k.1)
        intro j B a
        by_cases C:j < s.length
        · rw[List.getElem?_append_left C] at a;exact o j B a
        · rw[List.getElem?_append_right MB] at a
          have:j=i:=by
            have:=(hn.1 a).1
            simp at this;omega
          subst this
          have D:j - s.length=0:=by omega
          rw[D] at a
          simp at a
          subst a
          exact⟨_,hh _,qr⟩
      · have m:(if decide ((i:Int) < 1+v)=true then some (decide ((i:Int) < 4)) else some false)=some false:=by
          by_cases p:(i:Int) < 1+v
          · have E : ¬ (i:Int) < 4:=by omega
            simp[p,E]
          · simp[p]
        rw[m,gf]
        simp only[gh,if_false]
        exact .ret (ge.at (c:=⟨c.b,x,h⟩) k.1) ⟨u,by dsimp only;omega,by dsimp only;omega,o⟩
  exact lp N 0 [] _ _ MB MB rfl MC (gd.at g.1)
theorem EK:∀ s∈mB,dU s=true:=by decide
theorem CQ:∀ i,i < 4→∀ j,j < 4→i≠j→(mB[i]?.getD ⟨#[]⟩).data.toList≠(mB[j]?.getD ⟨#[]⟩).data.toList:=by decide
theorem El (i:Nat) (a:i < 4) (j:Nat) (b:j < 4) (h:i≠j):seq (mB[i]?.getD ⟨#[]⟩) (mB[j]?.getD ⟨#[]⟩)=false:=by
  have:=CQ i a j b h
  rw[kA]
  exact decide_eq_false fun e=>this (by rw[e])
theorem yD {d:bo} (h:Bq d):lh d=true:=by
  obtain⟨h1,m,x,n⟩:=h
  have o:dU d.Name=true:=(show ∀ s∈([⟨#[102,108,111,119]⟩,⟨#[115,104,105,112]⟩,⟨#[120]⟩]:List ByteArray),dU s=true by decide) _ h1
  have p:∀ s:ByteArray,seq s s=true:=fun s=>kI s
  have nm:∀ (i:Nat) (a:i < d.Rules.length),d.Rules[i].Name=mB[i]?.getD ⟨#[]⟩∧im d.Rules[i]=true:=fun i a=>by
    obtain⟨nm,c,f⟩:=n i _ (hh a)
    exact⟨by rw[c,f.1];rfl,Iq0 (EK nm (jt c)) f⟩
  have at_:∀ (i:Nat) (a:i < d.Rules.length),rR d.Rules d.Rules[i].Name=(i:Int):=fun i a=>by
    have:d.Rules.findIdx? (fun r=>seq r.Name d.Rules[i].Name)=some i:=by
      rw[List.findIdx?_eq_some_iff_getElem]
      refine⟨a,p _,fun j y=>?_⟩
      have q:j < d.Rules.length:=by omega
      rw[(nm j q).1,(nm i a).1,El j MB i MB MB]
      simp
    unfold rR
    rw[this]
  have lp:∀ (t:List ai) (i:Nat),i+t.length=d.Rules.length→(∀ k,(hk:k < t.length)→d.Rules[i+k]?=some t[k])→gP d.Rules i t=true:=by
    intro t
    induction t with
    | nil=>intro i _ _;rfl
    | cons r t u=>
      intro i v hk
      simp only[gx] at v
      have a:i < d.Rules.length:=by omega
      have e:d.Rules[i]=r:=by
        have:=hk 0 MC
        rw[Nat.add_zero,hh a] at this
        simpa using this
      have b:=u (i+1) MB (fun k w=>by have:=hk (k+1) (by simpa using w);rw[show i+1+k=i+(k+1) by omega,this];rfl)
      have g:=at_ i a
      have l:=(nm i a).2
      rw[e] at g l
      unfold gP
      rw[l,b,decide_eq_true g];rfl
  have b:=lp d.Rules 0 MB (fun k hk=>by rw[ht];exact hh hk)
  unfold lh
  rw[o,decide_eq_true m,decide_eq_true (show d.Rules.length≤12 by omega),b];rfl
def CD:List ByteArray:=[⟨#[111,114,100,101,114]⟩,⟨#[112,97,105,100]⟩,⟨#[105,116,101,109]⟩,⟨#[111,114,100,101,114]⟩]
def t8 (f:aH):Prop:=f.Kind∈CD∧f.Fields.length≤5∧∀ v∈f.Fields,uS v
theorem FR {N:Nat} (z:1099000000000≤N) {b:List Int} (l:b.length≤1048576) {c:a8} (g:GC b c):Dr b t8 (kY N c):=by
  unfold kY
  refine (nA l g _ (by decide)).bind fun k d gd hk=>?_
  have lp:∀ (m:Nat),m≤5→∀ (n i:Nat) (s:List bi) (x h:Int),i≤m→m - i < n→s.length=i→(∀ a∈s,uS a)→GC b ⟨c.b,x,h⟩→Dr b t8 (jm N c (k,d) (m:Int) n s (i:Int) x h):=by
    intro m hm n
    induction n with
    | zero=>intro i _ _ _ _ h;omega
    | succ n u=>
      intro i s x h A B C p o
      simp only[jm]
      refine .ite (fun r=>?_) (fun D=>.ret o ⟨hk,by dsimp only;omega,p⟩)
      have r:=of_decide_eq_true r
      refine (Av l o).bind fun a e ge q=>.bindO (kX MB MC) ?_
      rw[wr1 i MB]
      exact u (i+1) _ _ _ MB MB (by simp;omega) (gG p q) (ge.at (c:=⟨c.b,x,h⟩) o.1)
  have t:∀ (m:Nat),m≤5→Dr b t8 (iq N c (k,d) (m:Int)):=by
    intro m hm
    unfold iq kE
    refine (kV l (gd.at g.1) 12).bind fun v e ge _=>.ite (fun _=>?_) (fun _=>?_)
    · refine (d8 l (ge.at g.1) 6 MB).bind fun w f y hw=>?_
      obtain⟨j,rfl⟩:∃ j:Nat,w=(j:Int):=⟨w.toNat,MB⟩
      exact lp j MB N 0 [] _ _ MB MB rfl MC (y.at g.1)
    · exact lp m hm N 0 [] _ _ MB MB rfl MC (ge.at g.1)
  exact .ite (fun _=>t 2 MB) (fun _=>t 1 MB)
def qi (nx:Int) (l:List aw):Prop:=1≤nx∧(l.length:Int) < nx∧(∀ x∈l,1≤x.Id∧x.Id < nx∧t8 x.F)∧l.Pairwise fun a b=>a.Id < b.Id∧a.F≠b.F
def wP (s:ag):Prop:=s.Next≤9∧qi s.Next s.Items
theorem wb {nx:Int} {l:List aw} (h:qi nx l):∀ x∈l,x.F.Fields.length≤5:=fun x a=>(h.2.2.1 x a).2.2.2.1
theorem Fy {N:Nat} (d:1099000000000≤N) (s:ag) (v:Int) (e:s.Items.length≤1048576):∃ q,mP N s v=some (q,⟨s.Items.filter fun x=>!decide (x.Id=v),s.Next⟩):=by
  unfold mP
  have:=lp' d s.Items MB (fun n (u:List aw) i=>(eW N s v n u i).map (·.2)) (fun t u=>some ⟨u++t.filter fun x=>!decide (x.Id=v),s.Next⟩) (fun u t=>u.length+t.length≤1048576) [] (by simpa using e) (fun n u i x t g1 g2 g3 g4 g5 g6 a b=>by
    simp only[gx] at a
    simp only[eW,g5,if_true,g4,gf,g6,k0]
    by_cases h:x.Id=v
    · simp only[h,decide_true,hA,gh,if_false]
      exact b u MB
    · simp only[h,decide_false,hG,if_true,bD (show u.length+[x].length≤4294967296 by simp;omega),gf]
      rw[b _ (by simp;omega)];simp) (fun n u i g1 g2 a=>by simp only[eW,g2,gh,if_false,zw,List.filter_nil,mx])
  simp only[hB] at this
  cases c:eW N s v N [] 0 with
  | none=>rw[c] at this;simp at this
  | some r=>
    rw[c] at this
    simp only[zw,Option.some.injEq] at this
    exact⟨r.1,by rw[← this]⟩
theorem Bw {N:Nat} (r:1099000000000≤N) (l:List aw) (nx:Int) (f:aH) (k:t8 f) (h:qi nx l) (v:nx≤100):∃ q l' g,j7 N ⟨l,nx⟩ f=some (q,⟨l',g⟩)∧qi g l'∧g≤nx+1:=by
  obtain⟨h1,m,d,i⟩:=h
  have s:=fun x c=>(d x c).2.2.2.1
  unfold j7
  rw[Cu r ⟨l,nx⟩ f (by show l.length≤_;omega) (fun x c=>by have:=s x c;omega)]
  simp only[gf]
  by_cases hp:0 < AA l f
  · simp only[hp,decide_true,if_true]
    exact⟨_,_,_,rfl,⟨h1,m,d,i⟩,MB⟩
  · simp only[hp,decide_false,gh,if_false]
    have t:∀ x∈l,x.F≠f:=by
      intro x c e
      apply hp
      unfold AA
      cases j:l.find? (fun x=>decide (x.F=f)) with
      | none=>
        rw[MD] at j
        have:=j x c
        simp[e] at this
      | some y=>
        have:=(d y (MP j)).1
        simp only;omega
    by_cases n:(40:Int)≤(l.length:Int)
    · simp only[n,decide_true,if_true,gf]
      exact⟨_,_,_,rfl,⟨h1,m,d,i⟩,MB⟩
    · have hm : ¬ (1000000:Int)≤nx:=by omega
      simp only[n,hm,decide_false,gh,if_false,gf]
      have u:jS N f=some f:=by
        unfold jS
        rw[dY (show f.Fields.length≤4294967296 by have:=k.2.1;omega)];rfl
      simp only[u,gf,bD (show l.length+[(⟨nx,f⟩:aw)].length≤4294967296 by simp;omega)]
      rw[wr (show -9223372036854775808≤nx+1 by omega) MB]
      refine⟨_,_,_,rfl,⟨MB,by simp;omega,?_,?_⟩,MB⟩
      · refine gG (fun x c=>?_) ⟨MB,by simp only;omega,k⟩
        have:=d x c
        exact⟨this.1,MB,this.2.2⟩
      · refine D0.2 ⟨i,MC,fun a o b p=>?_⟩
        simp at p;subst p
        exact⟨(d a o).2.1,t a o⟩
theorem HM {N:Nat} (o:1099000000000≤N) {b:List Int} (i:b.length≤1048576) {c:a8} (g:GC b c):Dr b wP (pT N c):=by
  unfold pT
  refine (d8 i g 9 MB).bind fun v d gd C=>?_
  have lp:∀ (n:Nat) (l:List aw) (k x h nx:Int),0≤k→k < n→nx+k≤9→qi nx l→GC b ⟨c.b,x,h⟩→Dr b wP (fZ N c n l k x h nx):=by
    intro n
    induction n with
    | zero=>intro l k x h nx D h1;omega
    | succ n z=>
      intro l k x h nx D h1 L a p
      simp only[fZ]
      refine .ite (fun hk=>?_) (fun _=>.ret p ⟨by show nx≤9;omega,a⟩)
      have hk:=of_decide_eq_true hk
      have hlen:=a.2.1
      refine (kV i p 5).bind fun q e ge _=>?_
      have m:=ge.at (c:=⟨c.b,x,h⟩) p.1
      have rest:Dr b wP ((kY N (⟨c.b,e.i,e.h⟩:a8)).bind fun r=>(j7 N (⟨l,nx⟩:ag) r.1).bind fun A=>fZ N c n A.2.Items (IntKind.i64.wrap (k - 1)) r.2.i r.2.h A.2.Next):=by
        refine (FR o i m).bind fun f E s F=>?_
        obtain⟨G,l',H,t,I,M⟩:=Bw o l nx f F a MB
        refine .bindO t ?_
        rw[wrm hk MB]
        exact z l' (k - 1) _ _ H MB MB MB I (s.at (c:=⟨c.b,e.i,e.h⟩) m.1)
      by_cases B:q=true∧0 < l.length
      · have u:(if q=true then some (decide (0 < (l.length:Int))) else some false)=some true:=by
          rw[B.1,decide_eq_true (show (0:Int) < (l.length:Int) by omega)];rfl
        refine .bindO u ?_
        simp only[if_true]
        refine (d8 i m (l.length:Int) MB).bind fun w E s hw=>?_
        obtain⟨j,rfl⟩:∃ j:Nat,w=(j:Int):=⟨w.toNat,MB⟩
        refine .bindO (an (show j < l.length by omega)) ?_
        obtain⟨G,t⟩:=Fy o ⟨l,nx⟩ l[j].Id (show l.length≤1048576 by omega)
        refine .bindO t ?_
        rw[wrm hk MB]
        have O:=p7 (fun x:aw=>!decide (x.Id=l[j].Id)) l
        exact z _ (k - 1) _ _ nx MB MB MB ⟨a.1,by show ((l.filter _).length:Int) < nx;omega,fun y K=>a.2.2.1 y (ry.1 K).1,a.2.2.2.filter _⟩ (s.at (c:=⟨c.b,e.i,e.h⟩) m.1)
      · have u:(if q=true then some (decide (0 < (l.length:Int))) else some false)=some false:=by
          cases q with
          | false=>rfl
          | true=>
            have : ¬ 0 < l.length:=fun h=>B ⟨rfl,h⟩
            rw[decide_eq_false (show ¬ (0:Int) < (l.length:Int) by omega)];rfl
        refine .bindO u ?_
        simp only[gh,if_false]
        exact rest
  exact lp N [] v _ _ 1 C.1 MB MB ⟨MB,MC,MC,MC⟩ (gd.at g.1)
theorem Ee {N:Nat} (a:1099000000000≤N) (r:ai) (s:ag) (l:List aq) (m:r.Pats.length≤1048576) (hp:∀ p∈r.Pats,p.Args.length≤1048576) (o:s.Items.length≤1048576) (c:l.length≤2147483648):nC N r s l=some (rH r.Pats s.Items l):=by
  unfold nC
  refine lp0 a r.Pats MB (cB N r s l) (fun t=>some (rH t s.Items l)) (fun n i x t g1 g2 g3 g4 g5 g6 g7=>?_) (fun n i g1 g2=>?_)
  · simp only[cB,g5,if_true]
    have inner:ek N r s l i (cB N r s l n) N 0=some ((x.Not && s.Items.any fun y=>(bv x y.F l).2) || rH t s.Items l):=by
      refine lp0 a s.Items MB (ek N r s l i (cB N r s l n)) (fun u=>some ((x.Not && u.any fun y=>(bv x y.F l).2) || rH t s.Items l)) (fun d e y u f b q g h j k=>?_) (fun d e f b=>?_)
      · simp only[ek,h,if_true,g4,gf,g,wT a x y.F l (hp x g2) c,j,k,g6,g7,List.any_cons]
        cases x.Not <;> cases (bv x y.F l).2 <;> simp
      · simp only[ek,b,gh,if_false,gf,g6,g7];simp
    rw[inner];unfold rH;rw[List.any_cons]
  · simp only[cB,g2,gh,if_false];rfl
def o5 (a:bn) (l:List aq):bi × Bool:=if a.K=2 then (a.V,true) else if a.K=1 then uX l a.S else (zv,false)
def FD (x y:bi):Bool:=if x.K=y.K then (if x.N=y.N then slt x.S y.S else decide (x.N < y.N)) else decide (x.K < y.K)
def holds (c:ce) (l:List aq):Bool:=((o5 c.L l).2 && (o5 c.R l).2) && (if c.Op=1 then decide ((o5 c.L l).1=(o5 c.R l).1) else if c.Op=2 then !decide ((o5 c.L l).1=(o5 c.R l).1) else if c.Op=3 then FD (o5 c.L l).1 (o5 c.R l).1 else false)
theorem BS {N:Nat} (c:1099000000000≤N) (a:bn) (l:List aq) (d:l.length≤4294967296):mK N a l=some (o5 a l):=by
  unfold mK o5
  rw[Gn c l a.S d]
  by_cases b:a.K=2
  · simp[b]
  · by_cases h1:a.K=1 <;> simp[h1,b,zv]
theorem HH (N:Nat) (x y:bi):nM N x y=some (FD x y):=by
  unfold nM FD
  by_cases h1:x.K=y.K
  · by_cases a:x.N=y.N <;> simp[h1,a]
  · simp[h1]
theorem HR {N:Nat} (a:1099000000000≤N) (c:ce) (l:List aq) (b:l.length≤4294967296):qZ N c l=some (holds c l):=by
  unfold qZ holds
  rw[BS a c.L l b,BS a c.R l b]
  simp only[gf,HH,hP]
  cases (o5 c.L l).2 with
  | false=>simp
  | true=>
    cases (o5 c.R l).2 with
    | false=>simp
    | true=>
      by_cases h1:c.Op=1
      · simp[h1]
      · by_cases d:c.Op=2
        · simp[d]
        · by_cases e:c.Op=3 <;> simp[h1,d,e]
theorem ER {N:Nat} (a:1099000000000≤N) (cs:List ce) (l:List aq) (j:cs.length≤4194304) (d:l.length≤4294967296):nP N cs l=some (cs.all fun c=>holds c l):=by
  unfold nP
  refine lp0 a cs MB (ft N cs l) (fun t=>some (t.all fun c=>holds c l)) (fun n i x t h1 b k e f g h=>?_) (fun n i h1 b=>?_)
  · simp only[ft,f,if_true,e,gf,HR a x l d,g,h,ix]
    cases holds x l <;> simp
  · simp only[ft,b,gh,if_false];rfl
def rZ (fin:List Int→List aq→List aj) (xs:List aw):List au→List Int→List aq→List aj
  | [],ids,l=>fin ids l
  | p :: t,ids,l=>xs.flatMap fun x=>if (bv p x.F l).2=true then rZ fin xs t (ids++[x.Id]) (bv p x.F l).1 else []
def Cf (r:ai) (xs:List aw) (ids:List Int) (l:List aq):List aj:=if (!rH r.Pats xs l && r.Conds.all fun c=>holds c l)=true then [⟨0,ids,l⟩] else []
def qt (r:ai) (xs:List aw):List aj:=rZ (Cf r xs) xs (r.Pats.take (af r.Pats)) [] []
theorem wt {α β:Type} {f:α→List β} {M:Nat}:∀ (l:List α),(∀ x∈l,(f x).length≤M)→(l.flatMap f).length≤l.length*M
  | [],_=>by simp
  | x :: t,h=>by
    have h1:=wt t fun y a=>h y (by simp[a])
    have b:=h x MC
    rw[jf,hd,gx,hI];omega
theorem tm {fin:List Int→List aq→List aj} (a:∀ ids l,(fin ids l).length≤1) (xs:List aw):∀ (ps:List au) (ids:List Int) (l:List aq),(rZ fin xs ps ids l).length≤xs.length ^ ps.length
  | [],ids,l=>by simpa[rZ] using a ids l
  | p :: t,ids,l=>by
    unfold rZ
    rw[gx,Nat.pow_succ,Nat.mul_comm]
    refine wt xs fun x b=>?_
    split
    · exact tm a xs t _ _
    · exact j3 _
theorem xW (r:ai) (xs:List aw) (ids:List Int) (l:List aq):(Cf r xs ids l).length≤1:=by unfold Cf;split <;> simp
structure y9 (r:ai) (s:ag):Prop where
  pl:r.Pats.length≤1048576
  pa:∀ p∈r.Pats,p.Args.length≤1048576
  sa:dT r.Pats≤1048576
  cl:r.Conds.length≤1048576
  xl:s.Items.length≤1048576
  nm:s.Items.length ^ af r.Pats≤1073741824
theorem BM {fin:List Int→List aq→List aj} (a:∀ ids l,∀ m∈fin ids l,m.Ids=ids∧m.Binds=l) (xs:List aw):∀ (ps:List au) (ids:List Int) (l:List aq),∀ m∈rZ fin xs ps ids l,m.Ids.length=ids.length+ps.length∧m.Binds.length≤l.length+dT ps
  | [],ids,l,m,hm=>by
    obtain⟨h1,b⟩:=a ids l m (by simpa[rZ] using hm)
    rw[h1,b];simp
  | p :: t,ids,l,m,hm=>by
    unfold rZ at hm
    obtain⟨x,c,hm⟩:=j5.1 hm
    split at hm
    · have h1:=BM a xs t (ids++[x.Id]) (bv p x.F l).1 m hm
      have b:=ml p x.F l
      rw[eR]
      simp only[hd,gx,ha] at h1 ⊢
      omega
    · cases hm
theorem II (r:ai) (xs:List aw):∀ ids l,∀ m∈Cf r xs ids l,m.Ids=ids∧m.Binds=l:=by
  intro ids l m hm
  unfold Cf at hm
  split at hm
  · simp at hm;rw[hm];exact⟨rfl,rfl⟩
  · cases hm
theorem Es {f:aH} (h:t8 f):rL f=true:=by
  obtain⟨h1,a,b⟩:=h
  have c:=(show ∀ s∈CD,dU s=true by decide) _ h1
  unfold rL
  rw[c,decide_eq_true a,l4.2 fun v d=>C9 (b v d)];rfl
theorem EV {f:aH} (h:t8 f):yb f:=by
  obtain⟨h1,c,a⟩:=h
  have d:=(show ∀ s∈CD,s.size≤16 by decide) _ h1
  exact⟨MB,MB,fun v b=>by have:=xK (a v b);omega⟩
theorem BF {nx:Int}:∀ (t done:List aw),(∀ x∈t,1≤x.Id∧x.Id < nx∧t8 x.F)→(done++t).Pairwise (fun a b=>a.Id < b.Id∧a.F≠b.F)→kU nx done t=true
  | [],done,_,_=>rfl
  | x :: t,done,h,hp=>by
    obtain⟨h1,f,g⟩:=h x MC
    have d:=D0.1 hp
    have i:gu done x.Id=true:=by
      unfold gu
      cases j:done.getLast? with
      | none=>rfl
      | some y=>exact decide_eq_true (d.2.2 y (List.mem_of_getLast? j) x MC).1
    have k:(done.all fun y=>!decide (x.F=y.F))=true:=l4.2 fun y c=>by
      have:=(d.2.2 y c x MC).2
      rw[decide_eq_false fun e=>this e.symm];rfl
    unfold kU
    rw[Es g,decide_eq_true h1,decide_eq_true f,i,k,BF t (done++[x]) (fun y c=>h y (by simp[c])) (by simpa using hp)];rfl
theorem Db {s:ag} (h:wP s):iZ s=true:=by
  obtain⟨h1,a,d,b,c⟩:=h
  unfold iZ
  rw[decide_eq_true a,decide_eq_true (show s.Next≤1000000 by omega),decide_eq_true (show s.Items.length≤40 by omega),BF s.Items [] b (by simpa using c)];rfl
theorem sR {a:bn} (h:sf a):tG a:=by have:=h.1;have:=h.2;exact⟨MB,MB⟩
theorem FB {p:au} (h:BG p):zO p:=by
  obtain⟨h1,d,b⟩:=h
  exact⟨MB,MB,fun a c=>sR (b a c)⟩
theorem Er {c:ce} (h:AH c):y5 c:=⟨sR h.1,sR h.2⟩
theorem Fj {e:bY} (h:CM e):xZ e:=by
  obtain⟨h1,a,b⟩:=h
  exact⟨MB,sR a,sR b⟩
theorem Fq0 {a:cA} (h:DY a):zP a:=by
  obtain⟨h1,d,b,e⟩:=h
  exact⟨MB,MB,MB,fun a c=>Fj (b a c)⟩
theorem zC {B:Nat}:∀ {l:List cA},(∀ p∈l,p.Args.length≤B)→lX l≤l.length*B
  | [],_=>by simp[lX]
  | p :: t,h=>by
    have h1:=zC (l:=t) fun q a=>h q (by simp[a])
    have c:=h p MC
    have b:lX (p :: t)=p.Args.length+lX t:=by simp[lX]
    rw[b,gx,hI];omega
theorem Ef {r:ai} (h:vS r):Ae r:=by
  obtain⟨h1,⟨i,d⟩,⟨j,f⟩,h4,e⟩:=h
  have k:=xz (B:=16) fun p hp=>(d p hp).2.1
  have l:=zC (B:=16) fun a b=>(e a b).2.1
  exact⟨MB,⟨MB,fun p hp=>FB (d p hp)⟩,⟨MB,fun c g=>Er (f c g)⟩,⟨MB,fun a b=>Fq0 (e a b)⟩,MB,by
    have:lX r.Acts≤1048576:=by omega
    exact this⟩
theorem wr5 {v:Int} (h:0≤v) (a:v < 4294967296):IntKind.i64.wrap (5+v)=5+v:=wr MB MB
theorem Fl {N:Nat} (t:1099000000000≤N) {b:List Int} (i:b.length≤1048576) {c:a8} (g:GC b c):Dr b BG (qS N c):=by
  unfold qS
  refine (kV i g 3).bind fun u d0 g0 _=>(GP t i (g0.at g.1) u).bind fun p d gd hp=>(d8 i (gd.at g.1) 10 MB).bind fun v e ge _=>?_
  obtain⟨s1,s2,l⟩:=Br hp
  refine .ite (fun _=>?_) fun _=>.ite (fun _=>?_) fun _=>.ite (fun _=>?_) fun _=>.ret (ge.at g.1) ⟨s1,s2,l⟩
  · exact (nA i (ge.at g.1) _ (by decide)).bind fun k f j hk=>.ret (j.at g.1) ⟨(show ∀ s∈([⟨#[]⟩,⟨#[65]⟩,⟨#[120]⟩]:List ByteArray),s.size≤16 by decide) _ hk,s2,l⟩
  · refine (d8 i (ge.at g.1) 5 MB).bind fun k f j hk=>(nA i (j.at g.1) _ (by decide)).bind fun s y q m=>.bindO (kX (show p.Args.length≤4194304 by have:=hp.2.2.1;omega) MC) (.ret (q.at g.1) ⟨s1,?_,gG l ⟨?_,j3 _⟩⟩)
    · have:=hp.2.2.1;simp;omega
    · exact (show ∀ s∈([⟨#[]⟩,⟨#[120]⟩,⟨#[88]⟩]:List ByteArray),s.size≤16 by decide) _ m
  · have lp:∀ (n:Nat) (s:List bn) (x h:Int),s.length≤6→6 - s.length < n→(∀ a∈s,sf a)→GC b ⟨c.b,x,h⟩→Dr b BG (kf N c (p,d) n s x h):=by
      intro n
      induction n with
      | zero=>intro s _ _ _ h;omega
      | succ n z=>
        intro s x h B C m o
        simp only[kf]
        refine (d8 i o 2 MB).bind fun w f j hw=>?_
        dsimp only
        rw[wr5 hw.1 MB]
        refine .ite (fun r=>?_) (fun _=>.ret (j.at (c:=⟨c.b,x,h⟩) o.1) ⟨s1,by dsimp only;omega,m⟩)
        have r:=of_decide_eq_true r
        refine (BR i (j.at (c:=⟨c.b,x,h⟩) o.1)).bind fun a y q A=>.bindO (kX MB MC) ?_
        exact z _ _ _ (by simp;omega) (by simp;omega) (gG m (m4 A)) (q.at (c:=⟨c.b,x,h⟩) o.1)
    exact lp N p.Args _ _ (by have:=hp.2.2.1;omega) MB l (ge.at g.1)
theorem Em {N:Nat} {b:List Int} (a:b.length≤1048576) {c:a8} (g:GC b c):Dr b AH (qT N c):=by
  unfold qT
  refine (Gq a g).bind fun cd d gd i=>(d8 a (gd.at g.1) 8 MB).bind fun v e ge _=>?_
  obtain⟨s1,s2⟩:=Ej i
  refine .ite (fun _=>?_) fun _=>.ite (fun _=>?_) fun _=>.ite (fun _=>?_) fun _=>.ret (ge.at g.1) ⟨s1,s2⟩
  · exact (d8 a (ge.at g.1) 6 MB).bind fun k f h _=>.ret (h.at g.1) ⟨s1,s2⟩
  · exact (BR a (ge.at g.1)).bind fun k f h j=>.ret (h.at g.1) ⟨m4 j,s2⟩
  · exact (d8 a (ge.at g.1) 5 MB).bind fun k f h _=>.ret (h.at g.1) ⟨s1,j3 _,j3 _⟩
theorem K6:∀ s∈([⟨#[]⟩,⟨#[65]⟩,⟨#[120]⟩]:List ByteArray),s.size≤16:=by decide
theorem Gz {N:Nat} (p:1099000000000≤N) {b:List Int} (i:b.length≤1048576) {c:a8} (g:GC b c):Dr b DY (rz N c):=by
  unfold rz
  refine (IU p i g 2).bind fun a d gd o=>(d8 i (gd.at g.1) 10 MB).bind fun v e ge _=>?_
  obtain⟨s1,s2,m,n⟩:=E1 (fun a h=>m4 (um h)) o
  refine .ite (fun _=>?_) fun _=>.ite (fun _=>?_) fun _=>.ite (fun _=>?_) fun _=>.ite (fun _=>?_) fun _=>.ite (fun _=>?_) fun _=>.ret (ge.at g.1) ⟨s1,s2,m,n⟩
  · exact (d8 i (ge.at g.1) 8 MB).bind fun k f j _=>.ret (j.at g.1) ⟨s1,s2,m,n⟩
  · exact (nA i (ge.at g.1) _ (by decide)).bind fun k f j hk=>.ret (j.at g.1) ⟨K6 _ hk,s2,m,n⟩
  · exact (C1 i (ge.at g.1) _ (by decide)).bind fun k f j hk=>.ret (j.at g.1) ⟨s1,s2,m,n⟩
  · exact (nA i (ge.at g.1) _ (by decide)).bind fun k f j hk=>.ret (j.at g.1) ⟨s1,s2,m,K6 _ hk⟩
  · refine (nA i (ge.at g.1) _ (by decide)).bind fun k f j hk=>(BR i (j.at g.1)).bind fun l f1 g1 q=>(BR i (g1.at g.1)).bind fun r f2 g2 qr=>.bindO (kX (show a.Args.length≤4194304 by omega) MC) (.ret (g2.at g.1) ⟨s1,?_,gG m ⟨?_,m4 q,m4 qr⟩,n⟩)
    · have:=o.1;simp;omega
    · exact (show ∀ s∈([⟨#[]⟩,⟨#[42]⟩]:List ByteArray),s.size≤16 by decide) _ hk
def B1 (r:ai):Prop:=vS r∧1≤r.Pats.length∧r.Pats.length≤15∧r.Conds.length≤15∧r.Acts.length≤15
theorem J4 {α:Type} (l:List α):ssl l 0 0=some []:=by
  unfold ssl
  simp
theorem Fq {N:Nat} (n:1099000000000≤N) {b:List Int} (m:b.length≤1048576) {c:a8} (g:GC b c) {r:ai} (o:B1 r):Dr b vS (mI N c r):=by
  obtain⟨⟨s1,⟨s2,a⟩,⟨l,j⟩,s4,s4'⟩,l0,l1,l2,l3⟩:=o
  unfold mI
  refine .bindO (dY (show r.Pats.length≤4294967296 by omega)) ((d8 m g 10 MB).bind fun v e ge _=>?_)
  refine .ite (fun _=>?_) fun _=>.ite (fun _=>?_) fun _=>.ite (fun _=>?_) fun _=>.ite (fun _=>?_) fun _=>.ite (fun _=>?_) fun _=>.ite (fun _=>?_) fun _=>.ite (fun _=>?_) fun _=>.ret (ge.at g.1) ⟨s1,⟨s2,a⟩,⟨l,j⟩,s4,s4'⟩
  · exact (nA m (ge.at g.1) _ (by decide)).bind fun k f d hk=>.ret (d.at g.1) ⟨K6 _ hk,⟨s2,a⟩,⟨l,j⟩,s4,s4'⟩
  · exact (C1 m (ge.at g.1) _ (by decide)).bind fun k f d hk=>.ret (d.at g.1) ⟨s1,⟨s2,a⟩,⟨l,j⟩,s4,s4'⟩
  · exact (Fl n m (ge.at g.1)).bind fun p f d hp=>.bindO (kX MB MC) (.ret (d.at g.1) ⟨s1,⟨by simp;omega,gG a hp⟩,⟨l,j⟩,s4,s4'⟩)
  · exact .bindO (dY (show r.Conds.length≤4294967296 by omega)) ((Em m (ge.at g.1)).bind fun p f d hp=>.bindO (kX MB MC) (.ret (d.at g.1) ⟨s1,⟨s2,a⟩,⟨by simp;omega,gG j hp⟩,s4,s4'⟩))
  · exact .bindO (dY (show r.Acts.length≤4294967296 by omega)) ((Gz n m (ge.at g.1)).bind fun p f d hp=>.bindO (kX MB MC) (.ret (d.at g.1) ⟨s1,⟨s2,a⟩,⟨l,j⟩,by simp;omega,gG s4' hp⟩))
  · have q:idx r.Pats 0=some (r.Pats[0]'MB):=an (xs:=r.Pats) (i:=0) MB
    have s:=a r.Pats[0] (hz _)
    refine .bindO q (.ret (ge.at g.1) ⟨s1,⟨by simpa using s2,fun p hp=>?_⟩,⟨l,j⟩,s4,s4'⟩)
    rcases MF hp with h | h
    · exact a p h
    · rw[h];exact s
  · exact .bindO (J4 r.Acts) (.ret (ge.at g.1) ⟨s1,⟨s2,a⟩,⟨l,j⟩,MC,MC⟩)
theorem zN {nm:ByteArray} {r:ai} (a:nm.size≤16) (h:pI nm r):B1 r:=by
  have h1:=zX a h
  have b:=pb h.2.2.1
  have c:=h.2.2.2.1.1
  have d:=h.2.2.2.2.2.1
  exact⟨h1,MB,MB,MB,MB⟩
theorem EC {N:Nat} (h:1099000000000≤N) {b:List Int} (a:b.length≤1048576) {c:a8} (g:GC b c):Dr b vS (ra N c):=by
  unfold ra
  refine (nA a g _ (by decide)).bind fun nm d0 g0 i=>(Hk h a (g0.at g.1) nm).bind fun r d gd j=>(kV a (gd.at g.1) 3).bind fun v e ge _=>?_
  have h1:=zN ((show ∀ s∈([⟨#[114,49]⟩,⟨#[114,50]⟩,⟨#[115,104,105,112]⟩]:List ByteArray),s.size≤16 by decide) _ i) j
  refine .ite (fun _=>?_) fun _=>.ret (ge.at g.1) h1.1
  exact (Fq h a (ge.at g.1) h1).bind fun q f k l=>.ret (k.at g.1) l
theorem Gb {N:Nat} (n:1099000000000≤N) {b:List Int} (a:b.length≤1048576) {c:a8} (g:GC b c):Dr b BP (oU N c):=by
  unfold oU
  refine (Fu n a g).bind fun x d gd l=>(d8 a (gd.at g.1) 10 MB).bind fun v e ge _=>?_
  obtain⟨s1,s2,m⟩:=xT l
  have w:=l.2.1
  have y:=l.2.2.1
  have q:idx x.Rules 0=some (x.Rules[0]'MB):=an (xs:=x.Rules) (i:=0) MB
  have t:B1 (x.Rules[0]'MB):=by
    obtain⟨nm,h1,u⟩:=l.2.2.2 0 _ (hh MB)
    exact zN (zA nm (jt h1)) u
  refine .ite (fun _=>?_) fun _=>.ite (fun _=>?_) fun _=>.ite (fun _=>?_) fun _=>.ite (fun _=>?_) fun _=>.ret (ge.at g.1) ⟨s1,s2,m⟩
  · exact (nA a (ge.at g.1) _ (by decide)).bind fun k f j hk=>.ret (j.at g.1) ⟨(show ∀ s∈([⟨#[]⟩,⟨#[65]⟩]:List ByteArray),s.size≤16 by decide) _ hk,s2,m⟩
  · exact (EC n a (ge.at g.1)).bind fun r f j o=>.bindO (kX (show x.Rules.length≤4194304 by omega) MC) (.ret (j.at g.1) ⟨s1,by simp;omega,gG m o⟩)
  · refine .bindO q ((Fq n a (ge.at g.1) t).bind fun r f j o=>.bindO q (.ret (j.at g.1) ⟨s1,by simpa using s2,fun p hp=>?_⟩))
    rcases MF hp with h | h
    · exact m p h
    · rw[h];exact o
  · exact .bindO (J4 x.Rules) (.ret (ge.at g.1) ⟨s1,MC,MC⟩)
theorem xn {d:bo} (h:BP d):uM d:=by
  obtain⟨h1,c,a⟩:=h
  exact⟨MB,MB,fun r b=>Ef (a r b)⟩
def Lg (B:Nat) (n:bO):Prop:=(n.Alphas.length≤B∧∀ a∈n.Alphas,kh a)∧n.Chains.length≤B∧∀ c∈n.Chains,c.Pos.length≤B∧c.Neg.length≤B
theorem Ek {d:bo} (h:BP d):vR d.Rules∧mo d.Rules≤256:=by
  obtain⟨h1,c,b⟩:=h
  have e:=wZ (B:=16) fun r a=>(b r a).2.1.1
  exact⟨⟨MB,MB,fun r a p hp=>by have:=((b r a).2.1.2 p hp).2.1;omega⟩,MB⟩
theorem Gp {d:bo} (h:BP d):Lg 1000 (cc d):=by
  obtain⟨a,j⟩:=Ek h
  obtain⟨h1,b,k⟩:=rf a
  have f:=uQ a
  refine⟨⟨MB,f.1.2⟩,by rw[b.len];have:=h.2.1;omega,fun c g=>?_⟩
  obtain⟨r,i,e⟩:=DB b c g
  have:=(h.2.2 r i).2.1.1
  omega
theorem BL {α:Type} {P:α→Prop} {l:List α} {i:Nat} {a:α} (h:∀ x∈l,P x) (b:P a):∀ x∈l.set i a,P x:=fun x c=>by
  rcases MF c with h' | h'
  · exact h x h'
  · rw[h'];exact b
theorem Gd {N:Nat} (c:1099000000000≤N) (l:List ah) (a:l.length≤4294967296) (d:∀ t∈l,yy t):jc N l=some l:=by
  unfold jc
  refine (lp' c l a (fun n (u:List ah) i=>cV N l n u i) (fun t u=>some (u++t)) (fun u t=>u.length+t.length≤4294967296) [] (by simpa using a) (fun n u i x t g1 g2 g3 g4 g5 g6 b e=>?_) (fun n u i g1 g2 b=>?_)).trans MC
  · simp only[gx] at b
    obtain⟨f,z2⟩:=d x g2
    simp only[cV,g5,if_true,g4,gf,dY f,dY z2,show (⟨x.Ids,x.Hits⟩:ah)=x from rfl,bD (show u.length+[x].length≤4294967296 by simp;omega),iW,g6]
    rw[e _ (by simp;omega)];simp
  · simp only[cV,g2,gh,if_false,mx]
theorem L3 {N:Nat} (d:1099000000000≤N) (m:aI) (a:List aP) (b:Int) (K:List aP→Int→Option aI) (w:aP) (hw:idx m.Rules b=some w) (c:EX w) (f:a.length+1≤4294967296) :
    fy N m a b K N [] 0=K (a++[w]) (IntKind.i64.wrap (b+1)):=by
  refine (lp' d w.Levels c.1 (fun n (u:List ao) i=>fy N m a b K n u i) (fun t u=>K (a++[(⟨u++t⟩:aP)]) (IntKind.i64.wrap (b+1))) (fun u t=>u.length+t.length≤4294967296) [] (by simpa using c.1) (fun n u i x t g1 g2 g3 g4 g5 g6 e g=>?_) (fun n u i g1 g2 e=>?_)).trans MC
  · simp only[gx] at e
    obtain⟨h,z2⟩:=c.2 x g2
    simp only[fy,hw,g5,if_true,g4,gf,Gd d x.Toks h z2,show (⟨x.Toks⟩:ao)=x from rfl,bD (show u.length+[x].length≤4294967296 by simp;omega),g6]
    rw[g _ (by simp;omega)];simp
  · simp only[fy,hw,gf,g2,gh,if_false,mx,bD (show a.length+[(⟨u⟩:aP)].length≤4294967296 by simpa using f)]
theorem Kr {N:Nat} (b:1099000000000≤N) (m:aI) (hm:wE m):nE N m=some m:=by
  obtain⟨⟨h1,d⟩,h3,h4⟩:=hm
  have e:∀ as:List bm,et N m as N [] 0=some ⟨as,m.Rules⟩:=by
    intro as
    refine (lp' b m.Rules h3 (fun n (u:List aP) i=>et N m as n u i) (fun t u=>some ⟨as,u++t⟩) (fun u t=>u.length+t.length≤4294967296) [] (by simpa using h3) (fun n u i x t g1 g2 g3 g4 g5 g6 a c=>?_) (fun n u i g1 g2 a=>?_)).trans MC
    · simp only[gx] at a
      simp only[et,g5,if_true]
      rw[L3 b m u i _ x g4 (h4 x g2) MB,g6,c _ (by simp;omega)];simp
    · simp only[et,g2,gh,if_false,mx]
  unfold nE
  refine (lp' b m.Alphas h1 (fun n (u:List bm) i=>gC N m n u i) (fun t u=>some ⟨u++t,m.Rules⟩) (fun u t=>u.length+t.length≤4294967296) [] (by simpa using h1) (fun n u i x t g1 g2 g3 g4 g5 g6 a c=>?_) (fun n u i g1 g2 a=>?_)).trans MC
  · simp only[gx] at a
    simp only[gC,g5,if_true,g4,gf,dY (d x g2),show (⟨x.L⟩:bm)=x from rfl,bD (show u.length+[x].length≤4294967296 by simp;omega),g6]
    rw[c _ (by simp;omega)];simp
  · simp only[gC,g2,gh,if_false,e,mx]
theorem Co {nx:Int} {l:List aw} (h:qi nx l):∀ x∈l,yb x.F:=fun x a=>EV (h.2.2.1 x a).2.2
structure DrM (b:List Int) (B:Int) (d:bo) (m:aI) (s:ag) (c:a8):Prop where
  g:GC b c
  def_:Bq d
  mem:∃ j:Nat,(j:Int)≤B∧sj d (cc d) j m
  nx:s.Next≤B+1
  it:qi s.Next s.Items
theorem LB {N:Nat} (a:1099000000000≤N) {b:List Int} (r:b.length≤1048576) {c:a8} (g:GC b c):∃ d m s p,nD N c=some (d,cc d,m,s,p)∧DrM b 9 d m s p:=by
  unfold nD
  obtain⟨d,c1,W,g1,B⟩:=Fu a r g
  have C:=yD B
  have P:=xn (xT B)
  have D:=te C
  obtain⟨⟨X,z2⟩,z3,z4⟩:=uQ D
  have Q:=(rf D).2.1
  have Y:=xO Q
  obtain⟨v,c2,Z,g2,hv⟩:=d8 (N:=N) r (g1.at (c:=c) g.1) 10 MB
  simp only[W,gf,IS a d D,B6 a (cc d) X z3 (fun c hc=>(z4 c hc).1),Z]
  have lp:∀ (n:Nat) (m:aI) (l:List aw) (k x h nx:Int) (j:Nat),0≤k→k < n→(j:Int)+k≤9→nx+k≤10→sj d (cc d) j m→qi nx l→GC b ⟨c.b,x,h⟩ →
      ∃ R s p,fB N c (d,c1) (cc d) n m.Alphas m.Rules l k x h nx=some (d,cc d,R,s,p)∧DrM b 9 d R s p:=by
    intro n
    induction n with
    | zero=>intro m l k x h nx j h0 h1;omega
    | succ n E=>
      intro m l k x h nx j h0 h1 h2 h3 hm o F
      simp only[fB]
      by_cases hk:0 < k
      · have G:decide (0 < k)=true:=decide_eq_true hk
        have hlen:=o.2.1
        have S:=wb o
        obtain⟨q,e,e3,ge,-⟩:=kV (N:=N) r F 4
        have u:=ge.at (c:=⟨c.b,x,h⟩) F.1
        simp only[G,if_true,e3,gf]
        by_cases T:q=true∧0 < l.length
        · have H:(if q=true then some (decide (0 < (l.length:Int))) else some false)=some true:=by
            rw[T.1,decide_eq_true (show (0:Int) < (l.length:Int) by omega)];rfl
          obtain⟨w,e4,I,K,hw⟩:=d8 (N:=N) r u (l.length:Int) MB
          obtain⟨i,rfl⟩:∃ i:Nat,w=(i:Int):=⟨w.toNat,MB⟩
          obtain⟨z,L⟩:=Fy a ⟨l,nx⟩ l[i].Id (show l.length≤1048576 by omega)
          have ok:=Ey (s:=⟨l,nx⟩) (id:=l[i].Id) C P (show l.length≤40 by omega) (fun y t=>by have:=S y t;omega) MB hm
          have M:=HF a d m ⟨l,nx⟩ l[i].Id ok
          simp only[H,gf,if_true,I,an (show i < l.length by omega),show (⟨m.Alphas,m.Rules⟩:aI)=m from rfl,M,L,wrm hk (show k≤4611686018427387904 by omega)]
          have a6:=p7 (fun x:aw=>!decide (x.Id=l[i].Id)) l
          exact E (C6 d m ⟨l,nx⟩ l[i].Id) (l.filter fun x=>!decide (x.Id=l[i].Id)) (k - 1) _ _ nx j MB MB MB MB (Fg hm) ⟨o.1,MB,fun y t=>o.2.2.1 y (ry.1 t).1,o.2.2.2.filter _⟩ (K.at (c:=⟨c.b,e.i,e.h⟩) u.1)
        · have H:(if q=true then some (decide (0 < (l.length:Int))) else some false)=some false:=by
            cases q with
            | false=>rfl
            | true=>
              have : ¬ 0 < l.length:=fun h=>T ⟨rfl,h⟩
              rw[decide_eq_false (show ¬ (0:Int) < (l.length:Int) by omega)];rfl
          obtain⟨f,e4,I,K,hf⟩:=FR a r u
          have U:=K.at (c:=⟨c.b,e.i,e.h⟩) u.1
          simp only[H,gf,gh,if_false,I,Cu a ⟨l,nx⟩ f (by show l.length≤_;omega) (fun x hx=>by have:=S x hx;omega)]
          by_cases V:AA l f=0
          · obtain⟨z,l',A,L,O,a7⟩:=Bw a l nx f hf o MB
            have aa:=O.2.1
            have a1:=wb O
            have ok:=xm (s:=⟨l',A⟩) (id:=z) C P (show l'.length≤40 by omega) (fun y t=>by have:=a1 y t;omega) MB hm
            have M:=Jd a d (cc d) m ⟨l',A⟩ z ok
            simp only[V,decide_true,if_true,L,gf,show (⟨m.Alphas,m.Rules⟩:aI)=m from rfl,M,wrm hk (show k≤4611686018427387904 by omega)]
            exact E (zg d (cc d) m ⟨l',A⟩ z) l' (k - 1) _ _ A (j+1) MB MB MB MB (vp MB (show l'.length≤1048576 by omega) Q.len hm) O U
          · simp only[V,decide_false,gh,if_false,wrm hk (show k≤4611686018427387904 by omega)]
            exact E m l (k - 1) _ _ nx j MB MB MB MB hm o U
      · have G:decide (0 < k)=false:=decide_eq_false hk
        simp only[G,gh,if_false]
        exact⟨m,⟨l,nx⟩,_,rfl,F,B,⟨j,MB,hm⟩,by show nx≤_;omega,o⟩
  obtain⟨m,s,p,e9,h9⟩:=lp N (jP (cc d)) [] v c2.i c2.h 1 0 hv.1 MB MB MB Y ⟨MB,MC,MC,MC⟩ (g2.at (c:=⟨c.b,c1.i,c1.h⟩) g.1)
  exact⟨d,m,s,p,e9,h9⟩
theorem Hs {N:Nat} (B:1099000000000≤N) {b:List Int} (s:b.length≤1048576) {c:a8} (g:GC b c) {j:Nat} {m:aI} (G:j≤20) (H:m.Alphas.length≤1000) (I:m.Rules.length≤1000) (h:Ck j m):Dr b (Ck (j+1)) (nJ N c m):=by
  unfold nJ
  have up:∀ k:Nat,j*100 ^ k≤(j+1)*100 ^ k:=fun k=>Nat.mul_le_mul_right _ MB
  have p:∀ i∈m.Alphas,i.L.length≤j+1:=fun i C=>by have:=h.al i C;omega
  have q:∀ w∈m.Rules,w.Levels.length≤3∧∀ k L,w.Levels[k]?=some L→L.Toks.length≤(j+1)*100 ^ k∧∀ t∈L.Toks,t.Ids.length≤1000∧t.Hits.length≤1000∧(k+1=w.Levels.length→∀ x∈t.Hits,InR x):=fun w hw=>by
    obtain⟨a,b⟩:=h.rows w hw
    exact⟨a,fun k L d=>⟨j4 (b k L d).1 (up k),(b k L d).2⟩⟩
  refine .bindO (Kr B m (h.sz MB)) ((d8 s g 6 MB).bind fun v e ge _=>?_)
  have uq:Ck (j+1) ⟨m.Alphas,m.Rules⟩:=⟨h.la,h.lr,p,q⟩
  refine .ite (fun _=>.ite (fun o=>?_) fun _=>.ret (ge.at g.1) uq) fun _=>.ite (fun _=>?_) fun _=>.ite (fun _=>?_) fun _=>.ret (ge.at g.1) uq
  · have o:=of_decide_eq_true o
    have n:0 < m.Alphas.length:=by omega
    have r:idx m.Alphas 0=some m.Alphas[0]:=an (xs:=m.Alphas) (i:=0) n
    have K:=h.al _ (hz n)
    refine .bindO r ((d8 s (ge.at g.1) 9 MB).bind fun w f u _=>.bindO (bD (by simp;omega)) (.ret (u.at g.1) ⟨by simp;omega,h.lr,BL p (by simp;omega),q⟩))
  · by_cases A:0 < m.Rules.length
    · have r:idx m.Rules 0=some m.Rules[0]:=an (xs:=m.Rules) (i:=0) A
      have y:(if decide (0 < (m.Rules.length:Int)) then ((idx m.Rules 0).bind fun z=>some (decide (0 < (z.Levels.length:Int)))) else some false)=some (decide (0 < (m.Rules[0].Levels.length:Int))):=by
        rw[decide_eq_true (show (0:Int) < (m.Rules.length:Int) by omega),if_pos rfl,r,gf];rfl
      refine .bindO y (.ite (fun o=>?_) fun _=>.ret (ge.at g.1) uq)
      have o:=of_decide_eq_true o
      have n:0 < m.Rules[0].Levels.length:=by omega
      have D:idx m.Rules[0].Levels 0=some m.Rules[0].Levels[0]:=an (xs:=m.Rules[0].Levels) (i:=0) n
      obtain⟨a,b⟩:=h.rows _ (hz A)
      obtain⟨E,F⟩:=b 0 _ (hh n)
      simp only[Nat.pow_zero,Nat.mul_one] at E
      refine .bindO r (.bindO D ((d8 s (ge.at g.1) 9 MB).bind fun w f u _=>.bindO (bD (by simp;omega)) (.ret (u.at g.1) ⟨h.la,by simp;omega,p,BL q ⟨by simp;omega,fun k L d=>?_⟩⟩)))
      simp only at d
      rw[List.getElem?_set] at d
      split at d
      · rename_i e;subst e
        simp only[n,if_true,Int.toNat_zero,Option.some.injEq] at d
        subst d
        refine⟨by simp;omega,fun t l=>?_⟩
        simp only at l
        rcases gb.1 l with l | l
        · simpa using F t l
        · simp only[hZ] at l
          subst l
          exact⟨MC,MC,fun _=>by simp⟩
      · obtain⟨c1,c2⟩:=b k L d
        exact⟨j4 c1 (up k),by simpa using c2⟩
    · have y:(if decide (0 < (m.Rules.length:Int)) then ((idx m.Rules 0).bind fun z=>some (decide (0 < (z.Levels.length:Int)))) else some false)=some false:=by
        rw[decide_eq_false (show ¬ (0:Int) < (m.Rules.length:Int) by omega),if_neg MC]
      refine .bindO y ?_
      simp only[gh,if_false]
      exact .ret (ge.at g.1) uq
  · exact .bindO (bD (show m.Rules.length+_≤_ by simp;omega)) (.ret (ge.at g.1) ⟨h.la,by simp;omega,p,gG q ⟨MC,MC⟩⟩)
def oB (i:Nat) (m:aj):aj:=⟨(i:Int),m.Ids,m.Binds⟩
def jD (xs:List aw):Nat→List ai→List aj
  | _,[]=>[]
  | i,r :: t=>(qt r xs).map (oB i)++jD xs (i+1) t
theorem CG {r:ai} {s:ag} (a:y9 r s):(qt r s.Items).length≤1073741824:=by
  have h1:=tm (xW r s.Items) s.Items (r.Pats.take (af r.Pats)) [] []
  have b:=dp r.Pats
  rw[n0,Nat.min_eq_left b] at h1
  exact j4 h1 a.nm
theorem wl {xs:List aw} {M:Nat}:∀ (t:List ai) (i:Nat),(∀ r∈t,(qt r xs).length≤M)→(jD xs i t).length≤t.length*M
  | [],i,_=>by simp[jD]
  | r :: t,i,h=>by
    have h1:=wl t (i+1) fun y a=>h y (by simp[a])
    have b:=h r MC
    unfold jD
    rw[hd,Cl,gx,hI];omega
theorem JE (r:ai) (s:ag) (a:y9 r s):∀ (k N:Nat) (out:List aj) (ids:List Int) (l:List aq),1099000000001+k≤N→ids.length+k=af r.Pats→out.length+s.Items.length ^ k≤4294967296 →
    l.length+dT ((r.Pats.take (af r.Pats)).drop ids.length)≤1048576→fx N out r s ids l=some (out++rZ (Cf r s.Items) s.Items ((r.Pats.take (af r.Pats)).drop ids.length) ids l):=by
  have z:=dp r.Pats
  have A:=a.pl
  intro k
  induction k with
  | zero=>
    intro N out ids l j hk b d
    obtain⟨N,rfl⟩:∃ M,N=M+1:=⟨N - 1,MB⟩
    have c1:decide ((ids.length:Int)=(af r.Pats:Int))=true:=decide_eq_true MB
    have m:(r.Pats.take (af r.Pats)).drop ids.length=[]:=hy (by rw[n0];omega)
    rw[m]
    simp only[fx,vk (show 1099000000000≤N by omega) r a.pl,gf,c1,if_true,Ee (show 1099000000000≤N by omega) r s l a.pl a.pa a.xl MB,ER (show 1099000000000≤N by omega) r.Conds l (by have:=a.cl;omega) MB,nK,rZ,Cf,mi]
    cases (!rH r.Pats s.Items l && r.Conds.all fun c=>holds c l) with
    | true=>
      simp only[if_true,dY (show ids.length≤4294967296 by omega),dY (show l.length≤4294967296 by omega),gf,bD (show out.length+[(⟨0,ids,l⟩:aj)].length≤4294967296 by simp at b ⊢;omega)]
    | false=>simp
  | succ k o=>
    intro N out ids l j hk b d
    obtain⟨N,rfl⟩:∃ M,N=M+1:=⟨N - 1,MB⟩
    have c1:decide ((ids.length:Int)=(af r.Pats:Int))=false:=decide_eq_false MB
    have e:ids.length < r.Pats.length:=by omega
    have p:(r.Pats.take (af r.Pats)).drop ids.length=r.Pats[ids.length] :: (r.Pats.take (af r.Pats)).drop (ids.length+1):=by
      rw[ho (by rw[n0];omega),List.getElem_take]
    rw[p] at d ⊢
    rw[eR] at d
    have q:=a.pa _ (hz e)
    simp only[fx,vk (show 1099000000000≤N by omega) r a.pl,gf,c1,gh,if_false,rZ]
    have v:s.Items.length ^ (k+1)=s.Items.length*s.Items.length ^ k:=by rw[Nat.pow_succ,Nat.mul_comm]
    rw[v] at b
    have B:=a.xl
    refine lp' (show 1099000000000≤N by omega) s.Items MB (fun n (u:List aj) i=>eo N r s ids l (fx N) n u i) (fun t u=>some (u++t.flatMap fun x=>if (bv r.Pats[ids.length] x.F l).2=true then rZ (Cf r s.Items) s.Items ((r.Pats.take (af r.Pats)).drop (ids.length+1)) (ids++[x.Id]) (bv r.Pats[ids.length] x.F l).1 else []))
      (fun u t=>u.length+t.length*s.Items.length ^ k≤4294967296) out b (fun n u i x t g1 g2 g3 g4 g5 g6 f g=>?_) (fun n u i g1 g2 f=>?_)
    · rw[gx,hI] at f
      have C:=ml r.Pats[ids.length] x.F l
      simp only[eo,g5,if_true,an e,g4,gf,wT (show 1099000000000≤N by omega) _ x.F l q MB,jf,g6]
      cases hm:(bv r.Pats[ids.length] x.F l).2 with
      | true=>
        have w:=tm (xW r s.Items) s.Items ((r.Pats.take (af r.Pats)).drop (ids.length+1)) (ids++[x.Id]) (bv r.Pats[ids.length] x.F l).1
        have y:((r.Pats.take (af r.Pats)).drop (ids.length+1)).length=k:=by rw[List.length_drop,n0];omega
        rw[y] at w
        have h:(ids++[x.Id]).length=ids.length+1:=by simp
        have:=o N u (ids++[x.Id]) (bv r.Pats[ids.length] x.F l).1 MB MB MB (by rw[h];omega)
        rw[h] at this
        simp only[if_true,dY (show ids.length≤4294967296 by omega),bD (show ids.length+[x.Id].length≤4294967296 by simp;omega),gf,this,lV,g6]
        rw[g _ (by rw[hd];omega),gk]
      | false=>
        simp only[gh,if_false,hB]
        exact g u MB
    · simp only[eo,g2,gh,if_false];simp
theorem M4 {N:Nat} (b:1099400000000≤N) (r:ai) (s:ag) (a:y9 r s):qP N r s=some (qt r s.Items):=by
  unfold qP qt
  have h1:=rP (af r.Pats) r.Pats
  have c:=dp r.Pats
  have d:=a.pl
  have e:=a.sa
  have f:=a.nm
  have:=JE r s a (af r.Pats) N [] [] [] MB MC (by simp;omega) (by simp;omega)
  rw[this];simp
theorem KM {N:Nat} (e:1099400000000≤N) (d:bo) (s:ag) (A:d.Rules.length≤1048576) (f:∀ r∈d.Rules,y9 r s) (M:Nat) (g:∀ r∈d.Rules,(qt r s.Items).length≤M) (j:d.Rules.length*M≤4294967296):pn N d s=some (jD s.Items 0 d.Rules):=by
  unfold pn
  have lp:∀ (n i:Nat) (out:List aj),i≤d.Rules.length→d.Rules.length - i < n→out.length+(d.Rules.length - i)*M≤4294967296→eS N d s n out i=some (out++jD s.Items i (d.Rules.drop i)):=by
    intro n
    induction n with
    | zero=>intro i _ _ h;omega
    | succ n k=>
      intro i out B C l
      by_cases a:i < d.Rules.length
      · have c1:decide ((i:Int) < (d.Rules.length:Int))=true:=decide_eq_true MB
        have c:=f _ (hz a)
        have hm:=g _ (hz a)
        have D:=CG c
        rw[ho a,jD]
        simp only[eS,c1,if_true,an a,gf,M4 e _ s c]
        have o:(d.Rules.length - i)*M=M+(d.Rules.length - (i+1))*M:=by
          rw[show d.Rules.length - i=(d.Rules.length - (i+1))+1 by omega,hI];omega
        rw[o] at l
        have p:∀ (m:Nat) (todo done:List aj),todo.length < m→done.length+todo.length=(qt d.Rules[i] s.Items).length→∀ (u:List aj),u.length+todo.length+(d.Rules.length - (i+1))*M≤4294967296 →
            jj N (i:Int) (eS N d s n) m u (done++todo) (done.length:Int)=some (u++todo.map (oB i)++jD s.Items (i+1) (d.Rules.drop (i+1))):=by
          intro m
          induction m with
          | zero=>intro _ _ h;omega
          | succ m q=>
            intro todo done v w u hu
            simp only[jj]
            cases todo with
            | nil=>
              have b:decide ((done.length:Int) < ((done++([]:List aj)).length:Int))=false:=decide_eq_false MC
              rw[b]
              simp only[gh,if_false,wr1 i MB]
              rw[k (i+1) u MB MB (by simp at hu;omega)];simp
            | cons x t=>
              have b:decide ((done.length:Int) < ((done++x :: t).length:Int))=true:=decide_eq_true (by simp;omega)
              have y:idx (done++x :: t) (done.length:Int)=some x:=by
                rw[an (show done.length < (done++x :: t).length by simp)];simp
              have z:(done++x :: t).set ((done.length:Int)).toNat (oB i x)=(done++[oB i x])++t:=by
                rw[hX,vx _ _ (Nat.le_refl _)];simp
              simp only[gx] at v w hu
              rw[b]
              simp only[if_true,y,gf]
              rw[show (⟨(i:Int),x.Ids,x.Binds⟩:aj)=oB i x from rfl,bD (show u.length+[oB i x].length≤4294967296 by simp;omega),gf,z,wr1 _ MB]
              have:=q t (done++[oB i x]) MB (by simp;omega) (u++[oB i x]) (by simp;omega)
              rw[hd,gx,ha] at this
              rw[this];simp
        have:=p N (qt d.Rules[i] s.Items) [] MB MC out MB
        simp only[hB,ha] at this
        rw[show ((0:Nat):Int)=0 from rfl] at this
        rw[this];simp
      · have c1:decide ((i:Int) < (d.Rules.length:Int))=false:=decide_eq_false MB
        rw[hy MB]
        simp only[eS,c1,gh,if_false,jD,mx]
  have:=lp N 0 [] MB MB (by simpa using j)
  simpa using this
theorem wg {r:ai} (h:im r=true):gK r.Pats=true:=by
  unfold im at h
  simp only[gI] at h
  exact h.2.2.1
theorem xa {B:Nat}:∀ {l:List au},(∀ p∈l,p.Args.length≤B)→dT l≤l.length*B
  | [],_=>by simp[dT]
  | p :: t,h=>by
    have h1:=xa (l:=t) fun q a=>h q (by simp[a])
    have b:=h p MC
    rw[eR,gx,hI];omega
theorem tQ {c:Nat}:∀ (l:List au) (i:Nat),eh c i l=true→∀ p∈l,lA p=true
  | [],_,_,p,hp=>by cases hp
  | x :: t,i,h,p,hp=>by
    unfold eh at h
    simp only[gI] at h
    rcases hC.1 hp with rfl | hp
    · exact h.1
    · exact tQ t _ h.2.2 p hp
theorem Di {r:ai} {s:ag} (a:im r=true) (b:iZ s=true):y9 r s:=by
  have hp:=wg a
  unfold im at a
  simp only[gI,decide_eq_true_eq] at a
  have d:=a.2.2.2.1.2
  unfold gK at hp
  simp only[gI,decide_eq_true_eq] at hp
  obtain⟨⟨_,e⟩,⟨_,c⟩,p3⟩:=hp
  have pa:∀ p∈r.Pats,p.Args.length≤5:=fun p hp=>by
    have:=tQ _ _ p3 p hp
    unfold lA at this
    simp only[gI,decide_eq_true_eq] at this
    omega
  have sa:=xa pa
  unfold iZ at b
  simp only[gI,decide_eq_true_eq] at b
  have xl:=b.2.1
  refine⟨MB,fun p hp=>by have:=pa p hp;omega,MB,MB,MB,?_⟩
  exact j4 (Nat.pow_le_pow_left xl _) (j4 (ME MB c) (by decide))
theorem zr {r:ai} {s:ag} (b:im r=true) (a:iZ s=true):(qt r s.Items).length≤64000:=by
  have hp:=wg b
  unfold gK at hp
  simp only[gI,decide_eq_true_eq] at hp
  obtain⟨_,⟨_,c⟩,_⟩:=hp
  unfold iZ at a
  simp only[gI,decide_eq_true_eq] at a
  have xl:=a.2.1
  have h1:=tm (xW r s.Items) s.Items (r.Pats.take (af r.Pats)) [] []
  rw[n0,Nat.min_eq_left (dp r.Pats)] at h1
  exact j4 h1 (j4 (Nat.pow_le_pow_left xl _) (j4 (ME MB c) (by decide)))
theorem zG {d:bo} (h:lh d=true):d.Rules.length≤12:=by
  unfold lh at h
  simp only[gI,decide_eq_true_eq] at h
  exact h.2.1.2
theorem Ld {N:Nat} (d:1048578≤N) (x y:List Int) (f:x.length≤1048576):cn N x y=some (decide (x=y)):=by
  unfold cn
  by_cases c:x.length=y.length
  · rw[if_neg (by simp;omega)]
    refine (rS (cv N x y) x y c MB (fun a b=>some (decide (a=b))) (fun a _ b _=>rfl) (fun k i=>rfl) N 0 MB MB).trans ?_
    simp
  · rw[if_pos (by simp;omega)]
    have : ¬ x=y:=fun e=>c (by rw[e])
    simp[this]
def uq (x y:aj):Bool:=decide (x.Rule=y.Rule) && decide (x.Ids=y.Ids)
theorem Fo {N:Nat} (a:1048578≤N) (x y:aj) (h:x.Ids.length≤1048576):jz N x y=some (uq x y):=by
  unfold jz uq
  simp only[Ld a _ _ h,gf,nK]
theorem Ij {N:Nat} (d:1099000000000≤N) (x y:List aq) (f:x.length≤4294967296):d9 N x y=some (decide (x=y)):=by
  unfold d9
  by_cases c:x.length=y.length
  · rw[if_neg (by simp;omega)]
    refine (rS (bJ N x y) x y c MB (fun a b=>some (decide (a=b))) (fun a _ b _=>rfl) (fun k i=>by simp only[bJ,uZ,gf]) N 0 MB MB).trans ?_
    simp
  · rw[if_pos (by simp;omega)]
    have : ¬ x=y:=fun e=>c (by rw[e])
    simp[this]
theorem zD (x y:aj):decide (x=y)=(uq x y && decide (x.Binds=y.Binds)):=by
  obtain⟨a,b,c⟩:=x
  obtain⟨d,e,f⟩:=y
  simp only[uq,aj.mk.injEq,← Bool.decide_and,and_assoc]
def DA (l:List aj):Prop:=l.length≤1048576∧∀ m∈l,m.Ids.length≤1048576∧m.Binds.length≤1048576
theorem zk {N:Nat} (f:1099000000000≤N) (x y:List aj) (d:DA x):lE N x y=some (decide (x=y)):=by
  have h:=d.1
  have key:bd N x y (fk N)=some (decide (x=y)):=by
    unfold bd
    by_cases c:x.length=y.length
    · rw[if_neg (by simp;omega)]
      refine (rS (aS N x y (fk N)) x y c MB (fk N) (fun a g b _=>?_) (fun k i=>rfl) N 0 MB MB).trans ?_
      · obtain⟨h1,j⟩:=d.2 a g
        unfold fk
        rw[Fo MB a b h1,gf,zD]
        cases uq a b with
        | false=>rfl
        | true=>simp only[if_true,Ij f a.Binds b.Binds MB,gf,hK]
      · simp
    · rw[if_pos (by simp;omega)]
      have : ¬ x=y:=fun e=>c (by rw[e])
      simp[this]
  unfold lE
  rw[key,gf]
theorem Lz {P:aj→Prop} {xs:List aw}:∀ (t:List ai) (i:Nat),(∀ r∈t,∀ m∈qt r xs,∀ j:Nat,P (oB j m))→∀ m∈jD xs i t,P m
  | [],i,_,m,hm=>by simp[jD] at hm
  | r :: t,i,h,m,hm=>by
    unfold jD at hm
    rcases gb.1 hm with hm | hm
    · obtain⟨x,a,rfl⟩:=hQ.1 hm
      exact h r MC x a i
    · exact Lz t (i+1) (fun y b=>h y (by simp[b])) m hm
theorem Ko {d:bo} {s:ag} (a:lh d=true) (b:iZ s=true):DA (jD s.Items 0 d.Rules):=by
  have g:=zG a
  have c:=mz a
  have i:=wl (xs:=s.Items) (M:=64000) d.Rules 0 fun r h=>zr (c r h) b
  have hm:=Lz (xs:=s.Items) (P:=fun m=>m.Ids.length≤1048576∧m.Binds.length≤1048576) d.Rules 0 fun r h m hm j=>by
    have e:=Di (c r h) b
    have f:=BM (II r s.Items) s.Items (r.Pats.take (af r.Pats)) [] [] m hm
    have k:=rP (af r.Pats) r.Pats
    have l:=e.sa
    have n:=e.pl
    rw[n0] at f
    simp only[ha] at f
    show m.Ids.length≤1048576∧m.Binds.length≤1048576
    omega
  exact⟨MB,hm⟩
theorem EM {N:Nat} (d:1099000000000≤N) (x y:List aq) (f:x.length≤4294967296):jo N x y=some (decide (x=y)):=by
  unfold jo
  by_cases c:x.length=y.length
  · rw[if_neg (by simp;omega)]
    refine (rS (eI N x y) x y c MB (fun a b=>some (decide (a=b))) (fun a _ b _=>rfl) (fun k i=>by simp only[eI,uZ,gf]) N 0 MB MB).trans ?_
    simp
  · rw[if_pos (by simp;omega)]
    have : ¬ x=y:=fun e=>c (by rw[e])
    simp[this]
theorem FV {N:Nat} (c:1099000000000≤N) (x:List aj) (a:DA x):li N x=some x:=by
  have d:=a.1
  unfold li
  refine (lp' c x MB (fun n (u:List aj) i=>fo N x n u i) (fun t u=>some (u++t)) (fun u t=>u.length+t.length≤1048576) [] (by simpa using d) (fun n u i v t g1 g2 g3 g4 g5 g6 b e=>?_) (fun n u i g1 g2 b=>?_)).trans MC
  · simp only[gx] at b
    obtain⟨h1,f⟩:=a.2 v g2
    simp only[fo,lO,g5,if_true,g4,gf,dY (show v.Ids.length≤4294967296 by omega),dY (show v.Binds.length≤4294967296 by omega),bD (show u.length+[v].length≤4294967296 by simp;omega),show (⟨v.Rule,v.Ids,v.Binds⟩:aj)=v from rfl,g6]
    rw[e _ (by simp;omega)]
    simp
  · simp only[fo,g2,gh,if_false,mx]
theorem CV {N:Nat} (n:1099400000000≤N) {b:List Int} (e:b.length≤1048576):∃ x y,jg N b=some (x,y)∧DA x:=by
  have f:1099000000000≤N:=by omega
  unfold jg
  obtain⟨c,o,g0⟩:=Hj f b e
  obtain⟨d,c1,p,g1,t⟩:=Fu f e g0
  obtain⟨s,c2,u,g2,w⟩:=HM f e (g1.at (c:=c) g0.1)
  obtain⟨q,F,z,g3,-⟩:=kV (N:=N) e (g2.at (c:=c) g0.1) 2
  have g:=yD t
  have i:=Db w
  have A:=zG g
  have j:=mz g
  have m:=KM n d s MB (fun r h=>Di (j r h) i) 64000 (fun r h=>zr (j r h) i) MB
  have a:=Ko g i
  generalize jD s.Items 0 d.Rules=x at m a
  have B:=FV f x a
  simp only[o,p,u,m,z,gf,B]
  cases q with
  | true=>exact⟨x,x,rfl,a⟩
  | false=>
    simp only[gh,if_false]
    by_cases G:0 < x.length
    · have c1:decide (0 < (x.length:Int))=true:=decide_eq_true MB
      obtain⟨v,H,C,g4,I⟩:=d8 (N:=N) e (g3.at (c:=c) g0.1) (x.length:Int) MB
      obtain⟨k,rfl⟩:∃ k:Nat,v=(k:Int):=⟨v.toNat,MB⟩
      have hk:k < x.length:=by omega
      obtain⟨K,z2⟩:=a.2 _ (hz hk)
      obtain⟨D,L,E,g5,-⟩:=kV (N:=N) e (g4.at (c:=c) g0.1) 2
      simp only[c1,if_true,C,gf,an hk,bD (show x[k].Ids.length+[(1:Int)].length≤4294967296 by simp;omega),E,dL]
      cases D with
      | true=>
        have es:∀ l:List aj,l.length=x.length→ssl l 0 (k:Int)=some (l.take k):=fun l A=>by
          unfold ssl
          rw[if_pos ⟨MB,MB,MB⟩]
          simp
        simp only[if_true,es _ (List.length_set ..),gf]
        exact⟨_,_,rfl,a⟩
      | false=>
        simp only[gh,if_false]
        exact⟨_,_,rfl,a⟩
    · have c1:decide (0 < (x.length:Int))=false:=decide_eq_false MB
      simp only[c1,gh,if_false,dL]
      exact⟨_,_,rfl,a⟩
theorem EA {N:Nat} (f:1099000000000≤N) {b:List Int} (a:b.length≤1048576):∃ d m s,iz N b=some (d,m,s)∧uM d∧wE m∧tq s:=by
  unfold iz
  obtain⟨c,w,g0⟩:=Hj f b a
  obtain⟨d,m,s,c1,y,h1⟩:=LB f a g0
  obtain⟨q,c2,z,g2,-⟩:=kV (N:=N) a (h1.g.at (c:=c) g0.1) 3
  have A:=yD h1.def_
  have l:=xT h1.def_
  have B:=xn l
  have n:=Gp l
  obtain⟨j,I,hm⟩:=h1.mem
  have hlen:=h1.it.2.1
  have o:Ck j m:=Dx A (by have:=n.1.1;omega) hm
  have K:d.Rules.length≤4:=h1.def_.2.2.1
  have C:m.Alphas.length≤1000:=by rw[hm.la];exact n.1.1
  have D:m.Rules.length≤1000:=by rw[hm.lr];omega
  have L:=h1.nx
  have p:tq s:=⟨show s.Items.length≤1048576 by omega,Co h1.it⟩
  have r:∀ (e:aI) (x h:Int),wE e→GC b ⟨c.b,x,h⟩→∃ i t u,ez N c (d,cc d,m,s,c1) e.Alphas e.Rules x h=some (i,t,u)∧uM i∧wE t∧tq u:=by
    intro e x h g E
    unfold ez
    obtain⟨q,F,k,g3,-⟩:=kV (N:=N) a E 8
    simp only[k,gf,fQ]
    cases q with
    | true=>
      obtain⟨i,M,G,g4,H⟩:=Gb f a (g3.at (c:=c) g0.1)
      simp only[if_true,G,gf]
      exact⟨_,_,_,rfl,xn H,g,p⟩
    | false=>
      simp only[gh,if_false]
      exact⟨_,_,_,rfl,B,g,p⟩
  simp only[w,y,z,gf]
  have v:=g2.at (c:=c) g0.1
  cases q with
  | true=>
    obtain⟨e,F,k,g3,g⟩:=Hs f a v MB C D o
    simp only[if_true,k,gf]
    exact r e _ _ (g.sz MB) (g3.at (c:=c) g0.1)
  | false=>
    simp only[gh,if_false]
    exact r m _ _ (o.sz MB) v
theorem Cq {N:Nat} (w:1099400000000≤N) (b:List Int):pG N b=some true:=by
  have c:1099000000000≤N:=by omega
  unfold pG wS
  by_cases t:b.length≤1048576
  · have c1:decide (1048576 < (b.length:Int))=false:=decide_eq_false MB
    obtain⟨x,y,e,j⟩:=CV w t
    obtain⟨d,m,s,z,A,hm,B⟩:=EA c t
    obtain⟨r,C,D⟩:=Cw c d m s A hm B
    have M:=j.1
    simp only[c1,gf,gh,if_false,e]
    have lp:∀ (n i:Nat) (f:Bool),x.length - i < n→i≤x.length→(f=true→x.length=y.length∧x.take i=y.take i)→(f=false→x≠y)→ir N b (x,y) n f (i:Int)=some true:=by
      intro n
      induction n with
      | zero=>intro i f h;omega
      | succ n E=>
        intro i f h1 O u F
        simp only[ir]
        by_cases o:i < x.length∧f=true
        · obtain⟨a,rfl⟩:=o
          obtain⟨p,k⟩:=u rfl
          have l:i < y.length:=by omega
          have c2:decide ((i:Int) < (x.length:Int))=true:=decide_eq_true MB
          obtain⟨G,z2⟩:=j.2 _ (hz a)
          have v:(if uq x[i] y[i]=true then (idx x (i:Int)).bind fun H=>(idx y (i:Int)).bind fun I=>(jo N H.Binds I.Binds).bind fun K=>some K else some false)=some (decide (x[i]=y[i])):=by
            rw[zD]
            cases uq x[i] y[i] with
            | false=>rfl
            | true=>simp only[if_true,an a,an l,gf,EM c _ _ (show x[i].Binds.length≤4294967296 by omega),hK]
          simp only[c2,if_true,gf,an a,an l,Fo (show 1048578≤N by omega) _ _ G]
          simp only[an a,an l,gf] at v
          simp only[v,gf,wr1 i (show i≤4611686018427387904 by omega)]
          refine E (i+1) _ MB MB (fun g=>⟨p,?_⟩) fun g q=>?_
          · rw[z1 a,z1 l,k,of_decide_eq_true g]
          · subst q
            simp at g
        · have c2:(if decide ((i:Int) < (x.length:Int))=true then some f else some false)=some false:=by
            by_cases a:i < x.length
            · cases f with
              | true=>exact absurd ⟨a,rfl⟩ o
              | false=>simp
            · rw[if_neg (by simp;omega)]
          have g:f=decide (x=y):=by
            cases f with
            | false=>exact (decide_eq_false (F rfl)).symm
            | true=>
              obtain⟨p,k⟩:=u rfl
              have L:i=x.length:=by
                by_cases a:i < x.length
                · exact absurd ⟨a,rfl⟩ o
                · omega
              rw[L,List.take_length,p,List.take_length] at k
              exact (decide_eq_true k).symm
          rw[c2]
          simp only[gf,gh,if_false,z,zk c x y j,zk c x x j,g,beq_self_eq_true,if_true,decide_true,C,D]
    have:=lp N 0 (decide ((x.length:Int)=(y.length:Int))) MB MB (fun h=>⟨by have:=of_decide_eq_true h;omega,MC⟩) (fun h q=>by subst q;simp at h)
    exact this
  · have c1:decide (1048576 < (b.length:Int))=true:=decide_eq_true MB
    simp only[c1,gf,if_true]
namespace fnSets
theorem law {a:List Int} (w0:(WfL (WfI .u8)) a):pG 1099511627776 a=some true:=Cq MB a
end fnSets
end Go.Proofs.YtedmfnmbjglmbaaGreat
