/- Plain laws, one after the other: PLWent. -/
import Derived.Test.YtedmfnmbjglmbaaGreatPLib
import Derived.Test.YtedmfnmbjglmbaaGreatWWentMod
import Derived.Test.YtedmfnmbjglmbaaGreatWWentPur
namespace Go.Proofs.YtedmfnmbjglmbaaGreat
open Eng
set_option linter.unusedVariables false
set_option linter.unusedSimpArgs false
theorem bV {α:Type} {xs ys:List α} (h:xs.length+ys.length≤4294967296):app xs ys=some (xs++ys):=by unfold app;rw[if_pos h]
theorem gD {α:Type} {ys:List α} (h:ys.length≤4294967296):app ([]:List α) ys=some ys:=by rw[bV (by simpa using h)];rfl
theorem G9 {α:Type} (f:Nat→Int→Option Bool) (xs:List α) (e:xs.length≤4294967296) (p:α→Bool) (z:Bool) (i0:Nat)
    (b:∀ n (i:Nat) (x:α),i0≤i→idx xs (i:Int)=some x→x∈xs→decide ((i:Int) < (xs.length:Int))=true→IntKind.i64.wrap ((i:Int)+1)=((i+1:Nat):Int)→f (n+1) i=if p x then f n ((i+1:Nat):Int) else some false)
    (he:∀ n (i:Nat),decide ((i:Int) < (xs.length:Int))=false→f (n+1) i=some z) :
    ∀ (n i:Nat),i0≤i→i≤xs.length→xs.length - i < n→f n i=some ((xs.drop i).all p && z):=by
  intro n
  induction n with
  | zero=>intro i _ _ h;omega
  | succ n c=>
    intro i d g j
    by_cases a:i < xs.length
    · rw[hy a,p1,b n i xs[i] d (ag a) (hK a) (decide_eq_true OV) (wr1 i OV),c (i+1) OV OV OV]
      cases p xs[i]<;>simp
    · rw[he n i (decide_eq_false OV),hB OV,List.all_nil,hZ]
theorem tm {α:Type} (f:Nat→Int→Option Int) (xs:List α) (d:xs.length≤4294967296) (p:α→Bool)
    (b:∀ n (i:Nat) (x:α),idx xs (i:Int)=some x→x∈xs→decide ((i:Int) < (xs.length:Int))=true→IntKind.i64.wrap ((i:Int)+1)=((i+1:Nat):Int)→f (n+1) i=if p x then some (i:Int) else f n ((i+1:Nat):Int))
    (he:∀ n (i:Nat),decide ((i:Int) < (xs.length:Int))=false→f (n+1) i=some (-1)) :
    ∀ (n i:Nat),i≤xs.length→xs.length - i < n→f n i=some (match (xs.drop i).findIdx? p with | some j=>((i+j:Nat):Int) | none=>-1):=by
  intro n
  induction n with
  | zero=>intro i _ h;omega
  | succ n c=>
    intro i e g
    by_cases a:i < xs.length
    · rw[hy a,List.findIdx?_cons,b n i xs[i] (ag a) (hK a) (decide_eq_true OV) (wr1 i OV),c (i+1) OV OV]
      cases p xs[i]
      · simp only[gb,if_false]
        cases (xs.drop (i+1)).findIdx? p with
        | none=>rfl
        | some j=>simp only[D0];congr 2;omega
      · simp
    · rw[he n i (decide_eq_false OV),hB OV];rfl
theorem HV {α:Type} (xs:List α) (p:α→Bool):decide (0≤(match xs.findIdx? p with | some j=>((0+j:Nat):Int) | none=>-1))=xs.any p:=by
  cases h:xs.findIdx? p with
  | none=>
    rw[F0] at h
    simp only[show ¬ (0:Int) ≤ -1 by omega,decide_false]
    symm;rw[List.any_eq_false];intro x a;simp[h x a]
  | some j=>
    simp only[ho,show (0:Int)≤(j:Int) by omega,decide_true]
    rw[si] at h
    obtain⟨b,hp,_⟩:=h
    symm;rw[O1];exact⟨_,hK b,hp⟩
theorem t8 (a b:Bool):(if a=true then some b else some false)=some (a && b):=by cases a<;>rfl
theorem orS (a b:Bool):(if a=true then some true else some b)=some (a || b):=by cases a<;>rfl
end Go.Proofs.YtedmfnmbjglmbaaGreat
namespace Go.Proofs.YtedmfnmbjglmbaaGreat
open Eng
set_option linter.unusedVariables false
set_option linter.unusedSimpArgs false
theorem lp {σ α β:Type} (xs:List α) (k:xs.length≤4294967296) (f:Nat→σ→Int→Option β) (G:List α→σ→Option β) (I:σ→List α→Prop)
    (e:∀ n s (i:Nat) (x:α) (t:List α),xs.drop i=x :: t→x∈xs→i < xs.length→idx xs (i:Int)=some x→decide ((i:Int) < (xs.length:Int))=true→IntKind.i64.wrap ((i:Int)+1)=((i+1:Nat):Int)→I s (x :: t) →
      (∀ a,I a t→f n a ((i+1:Nat):Int)=G t a)→f (n+1) s i=G (x :: t) s)
    (he:∀ n s (i:Nat),i=xs.length→decide ((i:Int) < (xs.length:Int))=false→I s []→f (n+1) s i=G [] s) :
    ∀ (n i:Nat) (s:σ),i≤xs.length→xs.length - i < n→I s (xs.drop i)→f n s i=G (xs.drop i) s:=by
  intro n
  induction n with
  | zero=>intro i s _ h;omega
  | succ n g=>
    intro i s l m b
    by_cases c:i < xs.length
    · have d:=hy c
      rw[d] at b ⊢
      exact e n s i _ _ d (hK c) c (ag c) (decide_eq_true OV) (wr1 i OV) b (fun a j=>g (i+1) a OV OV j)
    · have d:xs.drop i=[]:=hB OV
      rw[d] at b ⊢
      exact he n s i OV (decide_eq_false OV) b
theorem lp' {σ α β:Type} {N:Nat} (e:1099000000000≤N) (xs:List α) (b:xs.length≤4294967296) (f:Nat→σ→Int→Option β) (G:List α→σ→Option β) (I:σ→List α→Prop) (s:σ) (c:I s xs)
    (d:∀ n s (i:Nat) (x:α) (t:List α),xs.drop i=x :: t→x∈xs→i < xs.length→idx xs (i:Int)=some x→decide ((i:Int) < (xs.length:Int))=true→IntKind.i64.wrap ((i:Int)+1)=((i+1:Nat):Int)→I s (x :: t) →
      (∀ a,I a t→f n a ((i+1:Nat):Int)=G t a)→f (n+1) s i=G (x :: t) s)
    (he:∀ n s (i:Nat),i=xs.length→decide ((i:Int) < (xs.length:Int))=false→I s []→f (n+1) s i=G [] s):f N s 0=G xs s:=by
  have:=lp xs b f G I d he N 0 s OV OV (by simpa using c)
  simpa using this
theorem lp0 {α β:Type} {N:Nat} (b:1099000000000≤N) (xs:List α) (c:xs.length≤4294967296) (f:Nat→Int→Option β) (G:List α→Option β)
    (d:∀ n (i:Nat) (x:α) (t:List α),xs.drop i=x :: t→x∈xs→i < xs.length→idx xs (i:Int)=some x→decide ((i:Int) < (xs.length:Int))=true→IntKind.i64.wrap ((i:Int)+1)=((i+1:Nat):Int) →
      f n ((i+1:Nat):Int)=G t→f (n+1) i=G (x :: t))
    (he:∀ n (i:Nat),i=xs.length→decide ((i:Int) < (xs.length:Int))=false→f (n+1) i=G []):f N 0=G xs:=by
  have:=lp' (σ:=Unit) b xs c (fun n _ i=>f n i) (fun t _=>G t) (fun _ _=>True) () trivial (fun n _ i x t h1 a e g h j _ k=>d n i x t h1 a e g h j (k () trivial)) (fun n _ i h1 a _=>he n i h1 a)
  simpa using this
theorem OR (a b:Bool):(if (!a)=true then some true else some b)=some (!a || b):=by cases a<;>rfl
theorem MT (i:Int) (m:Nat) (h:m < 4611686018427387904):0≤zl .i64 i (m:Int)∧zl .i64 i (m:Int)≤(m:Int):=by
  unfold zl
  have h1:((BitVec.ofInt IntKind.i64.bits i) &&& (BitVec.ofInt IntKind.i64.bits (m:Int))).toNat≤m:=by
    rw[BitVec.toNat_and]
    have a:(BitVec.ofInt IntKind.i64.bits (m:Int)).toNat=m:=by
      rw[BitVec.toNat_ofInt]
      have:((2 ^ IntKind.i64.bits:Nat):Int)=18446744073709551616:=by decide
      rw[this,Int.emod_eq_of_lt OV OV]
      simp
    rw[a];exact Nat.and_le_right
  rw[wr OV OV]
  omega
theorem Im (i:Int):0≤zl .i64 i 255∧zl .i64 i 255≤255:=MT i 255 OV
def GC (b:List Int) (c:ab):Prop:=c.b=b∧0≤c.i∧c.i≤(b.length:Int)
theorem GC.re {b:List Int} {c d:ab} (h:GC b c) (a:d.b=b):GC b (⟨d.b,c.i,c.h⟩:ab):=⟨a,h.2⟩
theorem M6 {N:Nat} (e:1099000000000≤N) (b:List Int) (f:b.length≤1048576):∃ c,ru N b=some c∧GC b c:=by
  unfold ru
  have:∀ (n i:Nat) (h:Int),i≤b.length→b.length - i < n→∃ c,jM N b n h i=some c∧GC b c:=by
    intro n
    induction n with
    | zero=>intro i h _ g;omega
    | succ n a=>
      intro i h j k
      simp only[jM]
      by_cases d:i < b.length
      · have c1:decide ((i:Int) < (b.length:Int))=true:=decide_eq_true OV
        simp only[c1,if_true,fI,ag d,wr1 i OV]
        split
        · exact a (i+1) _ OV OV
        · exact⟨_,rfl,rfl,OW,OW⟩
      · have c1:decide ((i:Int) < (b.length:Int))=false:=decide_eq_false OV
        simp only[c1,gb,if_false,fI]
        exact⟨_,rfl,rfl,OW,OW⟩
  exact this N 0 _ OV OV
theorem y9 {N:Nat} (b:List Int) (h:b.length≤1048576) (c:ab) (g:GC b c):∃ v d,kQ N c=some (v,d)∧GC b d∧0≤v∧v≤255:=by
  obtain⟨rfl,e,h1⟩:=g
  unfold kQ
  by_cases a:c.i < (c.b.length:Int)
  · obtain⟨i,f⟩:∃ i:Nat,c.i=(i:Int):=⟨c.i.toNat,OV⟩
    have c1:decide (c.i < (c.b.length:Int))=true:=decide_eq_true a
    rw[f] at e h1 a ⊢
    rw[f] at c1
    simp only[c1,if_true,ag (show i < c.b.length by omega),fI,wr1 i OV]
    exact⟨_,_,rfl,⟨rfl,by simp;omega,by simp;omega⟩,Im _⟩
  · have c1:decide (c.i < (c.b.length:Int))=false:=decide_eq_false a
    simp only[c1,gb,if_false]
    exact⟨_,_,rfl,⟨rfl,e,h1⟩,Im _⟩
theorem DR {v n:Int} (a:0≤v) (b:0 < n):∃ r,En v n=some r∧0≤r∧r < n:=by
  unfold En
  rw[if_neg OV,Int.tmod_eq_emod_of_nonneg a]
  exact⟨_,rfl,Int.emod_nonneg _ OV,Int.emod_lt_of_pos _ b⟩
theorem De {N:Nat} (b:List Int) (f:b.length≤1048576) (c:ab) (a:GC b c) (n:Int):∃ v d,cR N c n=some (v,d)∧GC b d∧0≤v∧(0 < n→v < n)∧(n≤0→v=0):=by
  unfold cR
  by_cases l:n≤0
  · simp only[l,decide_true,if_true]
    exact⟨_,_,rfl,a,OV,OV,fun _=>rfl⟩
  · simp only[l,decide_false,gb,if_false]
    by_cases h1:n≤256
    · simp only[h1,decide_true,if_true]
      obtain⟨v,d,e,g,m,a2⟩:=y9 (N:=N) b f c a
      obtain⟨r,i,j,k⟩:=DR m (show 0 < n by omega)
      simp only[e,fI,i]
      exact⟨_,_,rfl,g.re a.1 |> fun _=>⟨a.1,g.2⟩,j,fun _=>k,fun h=>h.elim⟩
    · simp only[h1,decide_false,gb,if_false]
      obtain⟨v1,d1,o,g1,m,s⟩:=y9 (N:=N) b f c a
      simp only[o,fI]
      obtain⟨v2,d2,p,g2,a2,t⟩:=y9 (N:=N) b f ⟨c.b,d1.i,d1.h⟩ ⟨a.1,g1.2⟩
      simp only[p,fI]
      obtain⟨v3,d3,q,g3,a3,u⟩:=y9 (N:=N) b f ⟨c.b,d2.i,d2.h⟩ ⟨a.1,g2.2⟩
      simp only[q,fI]
      rw[wr (n:=v1*65536) OV OV,wr (n:=v2*256) OV OV,wr (n:=v1*65536+v2*256) OV OV,wr (n:=v1*65536+v2*256+v3) OV OV]
      obtain⟨r,i,j,k⟩:=DR (show 0≤v1*65536+v2*256+v3 by omega) (show 0 < n by omega)
      simp only[i,fI]
      exact⟨_,_,rfl,⟨a.1,g3.2⟩,j,fun _=>k,fun h=>h.elim⟩
theorem wrm {s:Int} (h:0 < s) (a:s≤4611686018427387904):IntKind.i64.wrap (s - 1)=s - 1:=wr OV OV
def Dr {α:Type} (b:List Int) (Q:α→Prop) (o:Option (α × ab)):Prop:=∃ v d,o=some (v,d)∧GC b d∧Q v
theorem Dr.bind {α β:Type} {b:List Int} {Q:α→Prop} {R:β→Prop} {o:Option (α × ab)} {f:α × ab→Option (β × ab)} (h:Dr b Q o) (k:∀ v d,GC b d→Q v→Dr b R (f (v,d))):Dr b R (o.bind f):=by
  obtain⟨v,d,rfl,g,q⟩:=h;exact k v d g q
theorem Dr.bindO {a β:Type} {b:List Int} {R:β→Prop} {x:a} {o:Option a} {f:a→Option (β × ab)} (h:o=some x) (k:Dr b R (f x)):Dr b R (o.bind f):=by
  rw[h];exact k
theorem Dr.ret {α:Type} {b:List Int} {Q:α→Prop} {v:α} {c:ab} (g:GC b c) (q:Q v):Dr b Q (some (v,c)):=⟨v,c,rfl,g,q⟩
theorem Dr.ite {α:Type} {b:List Int} {Q:α→Prop} {x y:Option (α × ab)} {p:Bool} (h1:p=true→Dr b Q x) (a:p=false→Dr b Q y):Dr b Q (if p=true then x else y):=by
  cases p with
  | true=>exact h1 rfl
  | false=>exact a rfl
theorem GC.at {b:List Int} {c d:ab} (g:GC b d) (h:c.b=b):GC b (⟨c.b,d.i,d.h⟩:ab):=⟨h,g.2⟩
theorem nh {N:Nat} {b:List Int} (a:b.length≤1048576) {c:ab} (g:GC b c) (n:Int) (f:0 < n):Dr b (fun v=>0≤v∧v < n) (cR N c n):=by
  obtain⟨v,d,e,g,h1,h,-⟩:=De (N:=N) b a c g n
  exact⟨v,d,e,g,h1,h f⟩
theorem Dl {N:Nat} {b:List Int} (a:b.length≤1048576) {c:ab} (g:GC b c) (n:Int):Dr b (fun v=>0≤v∧(0 < n→v < n)) (cR N c n):=by
  obtain⟨v,d,e,g,h1,f,-⟩:=De (N:=N) b a c g n
  exact⟨v,d,e,g,h1,f⟩
theorem tE {α:Type} {xs ys:List α} (h:xs.length≤4194304) (a:ys.length≤4194304):app xs ys=some (xs++ys):=bV OV
theorem pN {α:Type} {P:α→Prop} {xs:List α} {x:α} (h:∀ a∈xs,P a) (b:P x):∀ a∈xs++[x],P a:=fun a c=>by
  rcases gf.1 c with h1 | h1
  · exact h a h1
  · simp at h1;rw[h1];exact b
theorem tW {N:Nat} {b:List Int} (a:b.length≤1048576) {c:ab} (g:GC b c) (n:Int):Dr b (fun _=>True) (gG N c n):=by
  unfold gG
  exact (Dl a g n).bind fun v d gd _=>.ret (gd.at g.1) trivial
theorem vJ {N:Nat} {b:List Int} (a:b.length≤1048576) {c:ab} (g:GC b c) (l:List Qr) (h:0 < l.length):Dr b (fun s=>s∈l) (i9 N c l):=by
  unfold i9
  refine (nh a g (l.length:Int) OV).bind fun v d gd q=>?_
  obtain⟨j,rfl⟩:∃ j:Nat,v=(j:Int):=⟨v.toNat,OV⟩
  exact .bindO (ag (show j < l.length by omega)) (.ret (gd.at g.1) (hK _))
def wc (v:bP):Prop:=(∃ n:Int,1≤n∧n≤3∧v=⟨1,n,⟨#[]⟩⟩)∨∃ s∈([⟨#[97]⟩,⟨#[98]⟩]:List Qr),v=⟨2,0,s⟩
theorem B9 {N:Nat} {b:List Int} (a:b.length≤1048576) {c:ab} (g:GC b c):Dr b wc (kU N c):=by
  unfold kU
  refine (tW a g 2).bind fun v d gd _=>.ite (fun _=>?_) fun _=>?_
  · exact (nh a (gd.at g.1) 3 OV).bind fun w e ge q=>.ret (ge.at g.1) (.inl ⟨_,by dsimp only;rw[wr OV OV];omega,by dsimp only;rw[wr OV OV];omega,rfl⟩)
  · exact (vJ a (gd.at g.1) _ (by decide)).bind fun w e ge q=>.ret (ge.at g.1) (.inr ⟨w,q,rfl⟩)
theorem yJ {v:bP} (h:wc v):v.S.size≤16:=by
  rcases h with ⟨n,_,_,rfl⟩ | ⟨s,a,rfl⟩
  · show (0:Nat)≤16;omega
  · exact (show ∀ s∈([⟨#[97]⟩,⟨#[98]⟩]:List Qr),s.size≤16 by decide) s a
def tU (a:cO):Prop:=a.S.size≤16∧a.V.S.size≤16
def J0 (p:az):Prop:=p.Kind.size≤16∧p.Args.length≤16∧∀ a∈p.Args,tU a
def Du (a:cO):Prop:=a=⟨3,⟨#[]⟩,⟨0,0,⟨#[]⟩⟩⟩∨(∃ v,wc v∧a=⟨2,⟨#[]⟩,v⟩)∨∃ s∈([⟨#[88]⟩,⟨#[89]⟩,⟨#[90]⟩,⟨#[88]⟩]:List Qr),a=⟨1,s,⟨0,0,⟨#[]⟩⟩⟩
theorem CC {a:cO} (h:Du a):tU a:=by
  rcases h with rfl | ⟨v,b,rfl⟩ | ⟨s,c,rfl⟩
  · exact⟨my _,my _⟩
  · exact⟨my _,yJ b⟩
  · exact⟨(show ∀ s∈([⟨#[88]⟩,⟨#[89]⟩,⟨#[90]⟩,⟨#[88]⟩]:List Qr),s.size≤16 by decide) s c,my _⟩
theorem No {N:Nat} {b:List Int} (a:b.length≤1048576) {c:ab} (g:GC b c):Dr b Du (rN N c):=by
  unfold rN
  refine (nh a g 6 OV).bind fun v d gd _=>.ite (fun _=>.ret (gd.at g.1) (.inl rfl)) fun _=>.ite (fun _=>?_) fun _=>?_
  · exact (B9 a (gd.at g.1)).bind fun w e ge q=>.bindO rfl (.ret (ge.at g.1) (.inr (.inl ⟨w,q,rfl⟩)))
  · exact (vJ a (gd.at g.1) _ (by decide)).bind fun w e ge q=>.bindO rfl (.ret (ge.at g.1) (.inr (.inr ⟨w,q,rfl⟩)))
def qR (n:Bool) (p:az):Prop:=p.Not=n∧p.Kind∈([⟨#[111,114,100,101,114]⟩,⟨#[112,97,105,100]⟩,⟨#[105,116,101,109]⟩,⟨#[111,114,100,101,114]⟩]:List Qr)∧p.Args.length≤2∧∀ a∈p.Args,Du a
theorem HB {n:Bool} {p:az} (h:qR n p):J0 p:=by
  obtain⟨_,h1,d,b⟩:=h
  exact⟨(show ∀ s∈([⟨#[111,114,100,101,114]⟩,⟨#[112,97,105,100]⟩,⟨#[105,116,101,109]⟩,⟨#[111,114,100,101,114]⟩]:List Qr),s.size≤16 by decide) _ h1,OV,fun a c=>CC (b a c)⟩
theorem KY {N:Nat} (t:1099000000000≤N) {b:List Int} (l:b.length≤1048576) {c:ab} (g:GC b c) (f:Bool):Dr b (qR f) (nS N c f):=by
  unfold nS
  refine (vJ l g _ (by decide)).bind fun k d gd hk=>?_
  have lp:∀ (m:Nat),m≤2→∀ (n i:Nat) (s:List cO) (x h:Int),i≤m→m - i < n→s.length=i→(∀ a∈s,Du a)→GC b ⟨c.b,x,h⟩→Dr b (qR f) (ke N c f (k,d) (m:Int) n s (i:Int) x h):=by
    intro m hm n
    induction n with
    | zero=>intro i _ _ _ _ h;omega
    | succ n r=>
      intro i s x h u v w o j
      simp only[ke]
      refine .ite (fun p=>?_) (fun y=>.ret j ⟨rfl,hk,by dsimp only;omega,o⟩)
      have p:=of_decide_eq_true p
      refine (No l j).bind fun a e ge q=>.bindO (tE OV OW) ?_
      rw[wr1 i OV]
      exact r (i+1) _ _ _ OV OV (by simp;omega) (pN o q) (ge.at (c:=⟨c.b,x,h⟩) j.1)
  exact .ite (fun _=>lp 2 OV N 0 [] _ _ OV OV rfl OW (gd.at g.1)) (fun _=>lp 1 OV N 0 [] _ _ OV OV rfl OW (gd.at g.1))
def J1 (c:fm):Prop:=tU c.L∧tU c.R
def kM (a:cO):Prop:=(∃ v,wc v∧a=⟨2,⟨#[]⟩,v⟩)∨∃ s∈([⟨#[88]⟩,⟨#[89]⟩,⟨#[90]⟩,⟨#[88]⟩]:List Qr),a=⟨1,s,⟨0,0,⟨#[]⟩⟩⟩
theorem Ba {N:Nat} {b:List Int} (a:b.length≤1048576) {c:ab} (g:GC b c):Dr b kM (mt N c):=by
  unfold mt
  refine (tW a g 3).bind fun v d gd _=>.ite (fun _=>?_) fun _=>?_
  · exact (B9 a (gd.at g.1)).bind fun w e ge q=>.bindO rfl (.ret (ge.at g.1) (.inl ⟨w,q,rfl⟩))
  · exact (vJ a (gd.at g.1) _ (by decide)).bind fun w e ge q=>.bindO rfl (.ret (ge.at g.1) (.inr ⟨w,(show ∀ s∈([⟨#[88]⟩,⟨#[89]⟩]:List Qr),s∈([⟨#[88]⟩,⟨#[89]⟩,⟨#[90]⟩,⟨#[88]⟩]:List Qr) by simp) w q,rfl⟩))
def Mk (c:fm):Prop:=1≤c.Op∧c.Op≤3∧kM c.L∧kM c.R
theorem Lw {N:Nat} {b:List Int} (a:b.length≤1048576) {c:ab} (g:GC b c):Dr b Mk (pw N c):=by
  unfold pw
  refine (nh a g 3 OV).bind fun v d gd q=>(Ba a (gd.at g.1)).bind fun l e ge h=>(Ba a (ge.at g.1)).bind fun r f i qr=>.ret (i.at g.1) ⟨?_,?_,h,qr⟩
  · dsimp only;rw[wr OV OV];omega
  · dsimp only;rw[wr OV OV];omega
theorem HY {N:Nat} {b:List Int} (a:b.length≤1048576) {c:ab} (g:GC b c) (l:List Int) (h:0 < l.length):Dr b (fun s=>s∈l) (nB N c l):=by
  unfold nB
  refine (nh a g (l.length:Int) OV).bind fun v d gd q=>?_
  obtain⟨j,rfl⟩:∃ j:Nat,v=(j:Int):=⟨v.toNat,OV⟩
  exact .bindO (ag (show j < l.length by omega)) (.ret (gd.at g.1) (hK _))
def Ew (e:eo):Prop:=e.Op.size≤16∧tU e.L∧tU e.R
def Hy (a:fD):Prop:=a.Name.size≤16∧a.Args.length≤16∧(∀ e∈a.Args,Ew e)∧a.Undo.size≤16
def Fl:cO:=⟨0,⟨#[]⟩,⟨0,0,⟨#[]⟩⟩⟩
def vS (T:cO→Prop) (e:eo):Prop:=T e.L∧((e.Op=⟨#[]⟩∧e.R=Fl)∨e.Op∈([⟨#[43]⟩,⟨#[45]⟩]:List Qr)∧T e.R)
theorem IW {T:cO→Prop} (b:∀ a,T a→tU a) {e:eo} (h:vS T e):Ew e:=by
  obtain⟨h1,⟨c,d⟩ | ⟨c,d⟩⟩:=h
  · exact⟨by rw[c];exact my _,b _ h1,by rw[d];exact⟨my _,my _⟩⟩
  · exact⟨(show ∀ s∈([⟨#[43]⟩,⟨#[45]⟩]:List Qr),s.size≤16 by decide) _ c,b _ h1,b _ d⟩
theorem M0 {N:Nat} {b:List Int} (a:b.length≤1048576) {c:ab} (g:GC b c):Dr b (vS kM) (pK N c):=by
  unfold pK
  refine (Ba a g).bind fun l d gd h=>(tW a (gd.at g.1) 4).bind fun v e ge _=>.ite (fun _=>?_) fun _=>?_
  · exact (vJ a (ge.at g.1) _ (by decide)).bind fun o f i j=>(Ba a (i.at g.1)).bind fun r k m qr=>.ret (m.at g.1) ⟨h,.inr ⟨j,qr⟩⟩
  · exact .ret (ge.at g.1) ⟨h,.inl ⟨rfl,rfl⟩⟩
def ww (T:cO→Prop) (pos:Int) (a:fD):Prop:=a.Args.length≤2∧(∀ e∈a.Args,vS T e) ∧
  ((a.Kind=2∧a.Name=⟨#[]⟩∧a.Args=[]∧0≤a.N∧(0 < pos→a.N < pos)∧a.Undo=⟨#[]⟩) ∨
   ((a.Kind=5∨a.Kind=6)∧a.Name=⟨#[]⟩∧a.Args=[]∧a.N=0∧a.Undo=⟨#[]⟩) ∨
   ((a.Kind=1∨a.Kind=3∨a.Kind=4)∧a.Name∈([⟨#[111,114,100,101,114]⟩,⟨#[112,97,105,100]⟩,⟨#[105,116,101,109]⟩,⟨#[115,104,105,112]⟩,⟨#[99,104,97,114,103,101]⟩]:List Qr) ∧
     (a.N=0∨a.Kind=4∧a.N∈([0,1,5,100000]:List Int))∧(a.Undo=⟨#[]⟩∨a.Kind=3∧a.Undo∈([⟨#[114,101,102,117,110,100]⟩,⟨#[99,97,110,99,101,108]⟩]:List Qr))))
theorem Ji {T:cO→Prop} (c:∀ a,T a→tU a) {pos:Int} {a:fD} (h:ww T pos a):Hy a:=by
  obtain⟨h1,d,b⟩:=h
  refine⟨?_,OV,fun e he=>IW c (d e he),?_⟩
  · rcases b with h | h | h
    · rw[h.2.1];exact my _
    · rw[h.2.1];exact my _
    · exact (show ∀ s∈([⟨#[111,114,100,101,114]⟩,⟨#[112,97,105,100]⟩,⟨#[105,116,101,109]⟩,⟨#[115,104,105,112]⟩,⟨#[99,104,97,114,103,101]⟩]:List Qr),s.size≤16 by decide) _ h.2.1
  · rcases b with h | h | h
    · rw[h.2.2.2.2.2];exact my _
    · rw[h.2.2.2.2];exact my _
    · rcases h.2.2.2 with h | h
      · rw[h];exact my _
      · exact (show ∀ s∈([⟨#[114,101,102,117,110,100]⟩,⟨#[99,97,110,99,101,108]⟩]:List Qr),s.size≤16 by decide) _ h.2
theorem Nj {N:Nat} (O:1099000000000≤N) {b:List Int} (j:b.length≤1048576) {c:ab} (g:GC b c) (pos:Int):Dr b (ww kM pos) (qE N c pos):=by
  unfold qE
  refine (HY j g _ (by decide)).bind fun k d gd hk=>?_
  dsimp only
  by_cases p:k=2
  · refine .ite (fun _=>?_) (fun h=>absurd p (of_decide_eq_false h))
    exact (Dl j (gd.at g.1) pos).bind fun v e ge q=>.ret (ge.at g.1) ⟨OW,OW,.inl ⟨p,rfl,rfl,q.1,q.2,rfl⟩⟩
  refine .ite (fun h=>absurd (of_decide_eq_true h) p) (fun _=>?_)
  have z:∀ (nm:Qr) (d0:ab) (l:List eo) (n:Int) (q:Bool) (x h:Int),GC b ⟨c.b,x,h⟩→(q=true→k=3) →
      (∀ u,(u=(⟨#[]⟩:Qr)∨k=3∧u∈([⟨#[114,101,102,117,110,100]⟩,⟨#[99,97,110,99,101,108]⟩]:List Qr))→ww kM pos ⟨k,nm,l,n,u⟩)→Dr b (ww kM pos) (j9 N c (k,d) (nm,d0) l n q x h):=by
    intro nm d0 l n q x h f F hu
    unfold j9
    refine .ite (fun G=>?_) (fun _=>.ret f (hu _ (.inl rfl)))
    exact (vJ j f _ (by decide)).bind fun u e ge H=>.ret (ge.at (c:=⟨c.b,x,h⟩) f.1) (hu _ (.inr ⟨F G,H⟩))
  have A:∀ (nm:Qr) (d0:ab) (l:List eo) (n:Int) (x h:Int),GC b ⟨c.b,x,h⟩ →
      (∀ u,(u=(⟨#[]⟩:Qr)∨k=3∧u∈([⟨#[114,101,102,117,110,100]⟩,⟨#[99,97,110,99,101,108]⟩]:List Qr))→ww kM pos ⟨k,nm,l,n,u⟩)→Dr b (ww kM pos) (ky N c (k,d) (nm,d0) l x h n):=by
    intro nm d0 l n x h f hu
    unfold ky
    refine .ite (fun I=>?_) (fun _=>z _ _ _ _ _ _ _ f (fun h=>by simp at h) hu)
    exact (tW j f 2).bind fun u e ge _=>z _ _ _ _ _ _ _ (ge.at (c:=⟨c.b,x,h⟩) f.1) (fun _=>of_decide_eq_true I) hu
  have lp:∀ (nm:Qr) (d0:ab),nm∈([⟨#[111,114,100,101,114]⟩,⟨#[112,97,105,100]⟩,⟨#[105,116,101,109]⟩,⟨#[115,104,105,112]⟩,⟨#[99,104,97,114,103,101]⟩]:List Qr)→(k=1∨k=3∨k=4) →
      ∀ (m:Nat),m≤2→∀ (n i:Nat) (s:List eo) (x h:Int),i≤m→m - i < n→s.length=i→(∀ a∈s,vS kM a)→GC b ⟨c.b,x,h⟩→Dr b (ww kM pos) (kA N c (k,d) (nm,d0) (m:Int) n s (i:Int) x h):=by
    intro nm d0 o B m hm n
    induction n with
    | zero=>intro i _ _ _ _ h;omega
    | succ n K=>
      intro i s x h P Q R r f
      simp only[kA]
      refine .ite (fun C=>?_) (fun S=>.ite (fun t=>?_) (fun _=>?_))
      · have C:=of_decide_eq_true C
        refine (M0 j f).bind fun a e ge q=>.bindO (tE OV OW) ?_
        rw[wr1 i OV]
        exact K (i+1) _ _ _ OV OV (by simp;omega) (pN r q) (ge.at (c:=⟨c.b,x,h⟩) f.1)
      · have t:k=4:=of_decide_eq_true t
        exact (HY j f _ (by decide)).bind fun v e ge q=>A _ _ _ _ _ _ (ge.at (c:=⟨c.b,x,h⟩) f.1) fun u hu=>⟨by dsimp only;omega,r,.inr (.inr ⟨B,o,.inr ⟨t,q⟩,hu⟩)⟩
      · exact A _ _ _ _ _ _ f fun u hu=>⟨by dsimp only;omega,r,.inr (.inr ⟨B,o,.inl rfl,hu⟩)⟩
  have T:Dr b (ww kM pos) (ev N c (k,d) true)→k=5∨k=6→Dr b (ww kM pos) (ev N c (k,d) true):=fun h _=>h
  have D:k=5∨k=6→Dr b (ww kM pos) (ev N c (k,d) true):=by
    intro L
    unfold ev
    simp only[if_true]
    exact .ret (gd.at g.1) ⟨OW,OW,.inr (.inl ⟨L,rfl,rfl,rfl,rfl⟩)⟩
  have M:k=1∨k=3∨k=4→Dr b (ww kM pos) (ev N c (k,d) false):=by
    intro E
    unfold ev
    simp only[gb,if_false]
    refine (vJ j (gd.at g.1) _ (by decide)).bind fun nm e ge o=>?_
    unfold jY
    exact .ite (fun _=>lp nm e o E 2 OV N 0 [] _ _ OV OV rfl OW (ge.at g.1)) (fun _=>lp nm e o E 1 OV N 0 [] _ _ OV OV rfl OW (ge.at g.1))
  have U:k=1∨k=3∨k=4∨k=5∨k=6:=by
    simp at hk;omega
  by_cases w:k=5
  · rw[decide_eq_true w];simp only[if_true];exact D (.inl w)
  · rw[decide_eq_false w];simp only[gb,if_false]
    by_cases y:k=6
    · rw[decide_eq_true y];exact D (.inr y)
    · rw[decide_eq_false y];exact M OV
instance OS (v:Qr) (xs:List Qr):Decidable (v∈xs):=@List.instDecidableMemOfLawfulBEq _ instBEqOfDecidableEq _ v xs
theorem ME {N:Nat} (b:1099000000000≤N) (xs:List Qr) (v:Qr) (c:xs.length≤4294967296):nJ N xs v=some (decide (v∈xs)):=by
  unfold nJ
  refine lp0 b xs c _ (fun t=>some (decide (v∈t))) (fun n i x t h1 a l d f g j=>?_) (fun n i h1 a=>?_)
  · simp only[jJ,f,if_true,d,fI,g,j,lK]
    by_cases h:x=v
    · simp[h]
    · have k : ¬ v=x:=fun e=>h e.symm
      simp[h,k]
  · simp only[jJ,a,gb,if_false];simp
def ed (s:List Qr) (v:Qr):List Qr:=if v∈s then s else s++[v]
theorem w6 (s:List Qr) (v:Qr):(ed s v).length≤s.length+1:=by unfold ed;split<;>simp
theorem HZ {s:List Qr} {v x:Qr}:x∈ed s v↔x∈s∨x=v:=by
  unfold ed;split
  · rename_i h
    constructor
    · exact .inl
    · rintro (a | rfl)
      · exact a
      · exact h
  · simp
theorem rm {x:Qr}:∀ {vs s:List Qr},x∈vs.foldl ed s↔x∈s∨x∈vs
  | [],s=>by simp
  | v :: vs,s=>by rw[sj,rm,HZ,hV,or_assoc]
theorem C1 {s:List Qr} {v:Qr} (h:v∈s):ed s v=s:=by unfold ed;rw[if_pos h]
theorem mD:∀ (vs s:List Qr),(vs.foldl ed s).length≤s.length+vs.length
  | [],s=>by simp
  | v :: vs,s=>by have:=mD vs (ed s v);have:=w6 s v;simp only[sj,gj];omega
theorem DD (s u:List Qr) (v:Qr):(ed u v).foldl ed s=ed (u.foldl ed s) v:=by
  by_cases h:v∈u
  · rw[C1 h,C1 (rm.2 (.inr h))]
  · have:ed u v=u++[v]:=by unfold ed;rw[if_neg h]
    rw[this,vx];rfl
theorem xE:∀ (vs u s:List Qr),(vs.foldl ed u).foldl ed s=vs.foldl ed (u.foldl ed s)
  | [],u,s=>rfl
  | v :: vs,u,s=>by rw[sj,xE vs (ed u v) s,DD,sj]
theorem C3 (vs s:List Qr):(vs.foldl ed []).foldl ed s=vs.foldl ed s:=xE vs [] s
theorem Ex {B:Nat} {vs s:List Qr} (h:∀ x∈vs,x.size≤B) (a:∀ x∈s,x.size≤B):∀ x∈vs.foldl ed s,x.size≤B:=fun x b=>(rm.1 b).elim (a x) (h x)
def dA:List cO→List Qr
  | []=>[]
  | a :: t=>if a.K=1 then a.S :: dA t else dA t
theorem jH:∀ (l:List cO),(dA l).length≤l.length
  | []=>by simp[dA]
  | a :: t=>by have:=jH t;unfold dA;split<;>simp<;>omega
theorem od {x:Qr}:∀ {l:List cO},x∈dA l↔∃ a∈l,a.K=1∧a.S=x
  | []=>by simp[dA]
  | a :: t=>by
    unfold dA
    split
    · rename_i h;simp[od,h,eq_comm]
    · rename_i h;simp[od,h]
theorem Mv {N:Nat} (a:1099000000000≤N) (p:az) (j:p.Args.length≤1048576):pu N p=some ((dA p.Args).foldl ed []):=by
  unfold pu
  refine lp' a p.Args OV (gV N p) (fun t s=>some ((dA t).foldl ed s)) (fun s t=>s.length+t.length≤4294967290) [] (by simp;omega) (fun n s i x t h1 b k e f g c d=>?_) (fun n s i h1 b c=>?_)
  · simp only[gj] at c
    simp only[gV,f,if_true,e,fI,g,dA,ME a s x.S OV]
    by_cases h:x.K=1
    · simp only[h,decide_true,if_true,fI,sj]
      have:=d (ed s x.S) (by have:=w6 s x.S;omega)
      unfold ed at this ⊢
      by_cases hm:x.S∈s
      · simp only[hm,if_true] at this
        simpa[hm] using this
      · simp only[hm,if_false] at this
        simp only[hm,decide_false,hW,if_true,bV (show s.length+[x.S].length≤4294967296 by simp;omega),fI,if_false]
        exact this
    · simp only[h,decide_false,gb,if_false,fI]
      exact d _ OV
  · simp only[gV,b,gb,if_false];rfl
def dB:List az→List Qr
  | []=>[]
  | p :: t=>if p.Not then dB t else dA p.Args++dB t
def kK (l:List az):Nat:=(l.map fun p=>p.Args.length).sum
theorem sE:∀ (l:List az),(dB l).length≤kK l
  | []=>by simp[dB,kK]
  | p :: t=>by
    have h1:=sE t
    have b:=jH p.Args
    have a:kK (p :: t)=p.Args.length+kK t:=by simp[kK]
    rw[a]
    unfold dB
    split
    · omega
    · rw[gk];omega
theorem Gw {N:Nat} (b:1099000000000≤N) (r:ah) (A:r.Pats.length≤1048576) (B:kK r.Pats≤1048576) (hp:∀ p∈r.Pats,p.Args.length≤1048576):mF N r=some ((dB r.Pats).foldl ed []):=by
  unfold mF
  refine lp' b r.Pats OV (dF N r) (fun t s=>some ((dB t).foldl ed s)) (fun s t=>s.length+kK t≤4294967290) [] (by simp;omega) (fun n s i x t h1 c C d k g h j=>?_) (fun n s i h1 c h=>?_)
  · have D:s.length+(x.Args.length+kK t)≤4294967290:=by simpa[kK] using h
    have l:=hp x c
    simp only[dF,k,if_true,d,fI,Mv b x l,dB]
    have o:=mD (dA x.Args) []
    have E:=jH x.Args
    simp only[gm,ho] at o
    have key:dH N r i (dF N r n) ((dA x.Args).foldl ed []) N s 0=if x.Not then some ((dB t).foldl ed s) else some ((dB t).foldl ed (((dA x.Args).foldl ed []).foldl ed s)):=by
      cases e:x.Not with
      | true=>
        obtain⟨m,rfl⟩:∃ m,N=m+1:=⟨N - 1,OV⟩
        have q:=j s OV
        simp only[dH,d,fI,e,hI,g,q]
        split<;>rfl
      | false=>
        refine lp' b ((dA x.Args).foldl ed []) OV (dH N r i (dF N r n) ((dA x.Args).foldl ed [])) (fun u s=>some ((dB t).foldl ed (u.foldl ed s))) (fun s u=>s.length+u.length+kK t≤4294967290) s OV (fun v a w y u g1 g2 g3 g4 g5 g6 f z=>?_) (fun v a w g1 g2 f=>?_)
        · simp only[gj] at f
          simp only[dH,g5,if_true,d,fI,e,hW,g4,ME b a y OV,sj,g6]
          have:=z (ed a y) (by have:=w6 a y;omega)
          unfold ed at this ⊢
          by_cases hm:y∈a
          · simp only[hm,if_true] at this
            simpa[hm] using this
          · simp only[hm,if_false] at this
            simp only[hm,decide_false,hW,if_true,bV (show a.length+[y].length≤4294967296 by simp;omega),fI,if_false]
            exact this
        · simp only[dH,g2,gb,if_false,fI,g]
          exact j a (by simp at f;omega)
    rw[show (dH N r i (dF N r n) ((dA x.Args).foldl ed []) N s 0)=_ from key]
    cases e:x.Not with
    | true=>simp
    | false=>simp[vx,C3]
  · simp only[dF,c,gb,if_false];rfl
def jU (r:ah):List Qr:=(dB r.Pats).foldl ed []
theorem H1 {r:ah} (h:kK r.Pats≤1048576):(jU r).length≤1048576:=by
  have h1:=mD (dB r.Pats) []
  have a:=sE r.Pats
  unfold jU;simp at h1;omega
def ao:List az→Nat
  | []=>0
  | p :: t=>if p.Not then ao t else ao t+1
theorem eh:∀ (l:List az),ao l≤l.length
  | []=>by simp[ao]
  | p :: t=>by have:=eh t;unfold ao;split<;>simp<;>omega
theorem Fp {N:Nat} (d:1099000000000≤N) (r:ah) (h:r.Pats.length≤1048576):lm N r=some (ao r.Pats:Int):=by
  unfold lm
  have:=lp' d r.Pats OV (ez N r) (fun t s=>some (s+(ao t:Int))) (fun s t=>0≤s∧s+t.length≤1048576) (0:Int) (by simp;omega) (fun n s i x t h1 a j e f g b c=>by
    simp only[gj] at b
    simp only[ez,f,if_true,e,fI,g,ao]
    cases k:x.Not with
    | true=>simpa using c s OV
    | false=>
      rw[wr (n:=s+1) OV OV]
      have:=c (s+1) OV
      simp only[hW,if_true,this,gb,if_false]
      congr 1;omega) (fun n s i h1 a b=>by simp only[ez,a,gb,if_false,ao];simp)
  simpa using this
def lF (vs:List Qr) (a:cO):Bool:=!decide (a.K=1) || decide (a.S∈vs)
theorem Jl {N:Nat} (b:1099000000000≤N) (a:cO) (vs:List Qr) (h:vs.length≤4294967296):oJ N a vs=some (lF vs a):=by
  unfold oJ lF
  simp only[ME b vs a.S h,fI,OR]
def DM (r:ah):Prop:=r.Name.size≤16∧(r.Pats.length≤16∧∀ p∈r.Pats,J0 p)∧(r.Conds.length≤16∧∀ c∈r.Conds,J1 c)∧r.Acts.length≤16∧∀ a∈r.Acts,Hy a
def iO (vs:List Qr) (a:cO):Prop:=(∃ v,wc v∧a=⟨2,⟨#[]⟩,v⟩)∨∃ s∈vs,a=⟨1,s,⟨0,0,⟨#[]⟩⟩⟩
theorem Bp {N:Nat} (d:1099000000000≤N) {vs:List Qr} (b:vs.length≤4194304) {a:cO} (h:kM a):∃ c,mH N a vs=some c∧iO vs c:=by
  unfold mH
  rw[Jl d a vs OV,fI]
  rcases h with ⟨v,b,rfl⟩ | ⟨s,j,rfl⟩
  · exact⟨_,by simp[lF],.inl ⟨v,b,rfl⟩⟩
  · by_cases hm:s∈vs
    · exact⟨_,by simp[lF,hm],.inr ⟨s,hm,rfl⟩⟩
    · have e:lF vs ⟨1,s,⟨0,0,⟨#[]⟩⟩⟩=false:=by simp[lF,hm]
      simp only[e,gb,if_false]
      cases vs with
      | nil=>exact⟨_,rfl,.inl ⟨⟨1,1,⟨#[]⟩⟩,.inl ⟨1,OV,OV,rfl⟩,rfl⟩⟩
      | cons x t=>
        have f:decide (((x :: t).length:Int)=0)=false:=decide_eq_false (by simp only[gj];omega)
        have g:idx (x :: t) 0=some x:=ag (xs:=x :: t) (i:=0) OW
        simp only[f,gb,if_false,g,fI]
        exact⟨_,rfl,.inr ⟨x,OW,rfl⟩⟩
theorem E3 {vs:List Qr} (b:∀ s∈vs,s.size≤16) {a:cO} (h:iO vs a):tU a:=by
  rcases h with ⟨v,h,rfl⟩ | ⟨s,h,rfl⟩
  · exact⟨my _,yJ h⟩
  · exact⟨b s h,my _⟩
def lL (l:List az):Prop:=∃ ps ns,l=ps++ns∧1≤ps.length∧ps.length≤3∧ns.length≤1∧(∀ p∈ps,qR false p)∧∀ p∈ns,qR true p
theorem pH {l:List az} (h:lL l):∀ p∈l,∃ n,qR n p:=by
  obtain⟨ps,ns,rfl,-,-,-,h1,a⟩:=h
  intro p hp
  rcases gf.1 hp with h | h
  · exact⟨_,h1 p h⟩
  · exact⟨_,a p h⟩
theorem sh {l:List az} (h:lL l):1≤l.length∧l.length≤4:=by
  obtain⟨ps,ns,rfl,h1,a,b,-⟩:=h
  rw[gk];omega
theorem yG {B:Nat}:∀ {l:List az},(∀ p∈l,p.Args.length≤B)→kK l≤l.length*B
  | [],_=>by simp[kK]
  | p :: t,h=>by
    have h1:=yG (l:=t) fun q a=>h q (by simp[a])
    have c:=h p OW
    have b:kK (p :: t)=p.Args.length+kK t:=by simp[kK]
    rw[b,gj,hE];omega
theorem xu {l:List az} (h:lL l):kK l≤8:=by
  have h1:=yG (B:=2) fun p hp=>(pH h p hp).elim fun n a=>a.2.2.1
  have:=sh h
  omega
theorem Bh {B:Nat} {l:List cO} (h:∀ a∈l,a.S.size≤B):∀ x∈dA l,x.size≤B:=fun x b=>by
  obtain⟨a,c,_,rfl⟩:=od.1 b;exact h a c
theorem ra {B:Nat}:∀ {l:List az},(∀ p∈l,∀ a∈p.Args,a.S.size≤B)→∀ x∈dB l,x.size≤B
  | [],_,x,b=>by simp[dB] at b
  | p :: t,h,x,b=>by
    unfold dB at b
    split at b
    · exact ra (fun q c=>h q (by simp[c])) x b
    · rcases gf.1 b with b | b
      · exact Bh (h p OW) x b
      · exact ra (fun q c=>h q (by simp[c])) x b
def bnd (l:List az):List Qr:=(dB l).foldl ed []
theorem MK {l:List az} (h:lL l):∀ s∈bnd l,s.size≤16:=Ex (ra fun p hp a b=>(pH h p hp).elim fun n c=>(CC (c.2.2.2 a b)).1) OW
theorem FK {l:List az} (h:lL l):(bnd l).length≤8:=by
  have h1:=mD (dB l) []
  have a:=sE l
  have b:=xu h
  simp only[gm] at h1
  unfold bnd;omega
def qX (nm:Qr) (r:ah):Prop:=r.Name=nm∧r.Sal∈([0,0,5,(-5),100]:List Int)∧lL r.Pats∧(r.Conds.length≤1∧∀ c∈r.Conds,1≤c.Op∧c.Op≤3∧iO (bnd r.Pats) c.L∧iO (bnd r.Pats) c.R) ∧
  (1≤r.Acts.length∧r.Acts.length≤3∧∀ a∈r.Acts,ww (iO (bnd r.Pats)) (ao r.Pats) a)
theorem Gd {nm:Qr} {r:ah} (b:nm.size≤16) (h:qX nm r):DM r:=by
  obtain⟨h1,_,d,⟨j,g⟩,h5,h6,h7⟩:=h
  have e:∀ a,iO (bnd r.Pats) a→tU a:=fun a f=>E3 (MK d) f
  have:=sh d
  exact⟨by rw[h1];exact b,⟨OV,fun p hp=>(pH d p hp).elim fun n b=>HB b⟩,⟨OV,fun c i=>⟨e _ (g c i).2.2.1,e _ (g c i).2.2.2⟩⟩,OV,fun a f=>Ji e (h7 a f)⟩
theorem OB {N:Nat} (k:1099000000000≤N) {b:List Int} {vs:List Qr} (l:vs.length≤4194304) (f:List fD) (g:Int) (K:List fD→Int→Int→Int→Option (ah × ab)) (c:fD × ab) {R:ah→Prop} {m:Nat} (hm:m≤4194304)
    (u:∀ es:List eo,es.length=m→(∀ e∈es,vS (iO vs) e)→Dr b R ((app f [⟨c.1.Kind,c.1.Name,es,c.1.N,c.1.Undo⟩]).bind fun v=>K v (IntKind.i64.wrap (g - 1)) c.2.i c.2.h)) :
    ∀ (n:Nat) (todo done:List eo),todo.length < n→done.length+todo.length=m→(∀ e∈done,vS (iO vs) e)→(∀ e∈todo,vS kM e)→Dr b R (gX N vs f g K c n (done++todo) (done.length:Int)):=by
  intro n
  induction n with
  | zero=>intro _ _ h;omega
  | succ n w=>
    intro todo done x o p q
    simp only[gX]
    cases todo with
    | nil=>
      have i:decide ((done.length:Int) < ((done++([]:List eo)).length:Int))=false:=decide_eq_false OW
      rw[i]
      simp only[gb,if_false,ix]
      exact u done (by simpa using o) p
    | cons e t=>
      have i:decide ((done.length:Int) < ((done++e :: t).length:Int))=true:=decide_eq_true (by simp;omega)
      have z:idx (done++e :: t) (done.length:Int)=some e:=by
        rw[ag (show done.length < (done++e :: t).length by simp)];simp
      have A:∀ y,(done++e :: t).set ((done.length:Int)).toNat y=(done++[y])++t:=fun y=>by
        rw[hQ,sX _ _ (hA _)];simp
      simp only[gj] at x o
      rw[i]
      simp only[if_true]
      refine .bindO z ?_
      obtain⟨B,d⟩:=q e OW
      obtain⟨l',el,r⟩:=Bp k l B
      refine .bindO el ?_
      have next:∀ y,vS (iO vs) y→Dr b R (gX N vs f g K c n ((done++e :: t).set ((done.length:Int)).toNat y) (IntKind.i64.wrap ((done.length:Int)+1))):=by
        intro y C
        rw[A,wr1 _ OV]
        have:=w t (done++[y]) OV (by simp;omega) (pN p C) (fun a D=>q a (by simp[D]))
        simpa using this
      rcases d with ⟨hO,d⟩ | ⟨hO,d⟩
      · have j:(!seq e.Op ⟨#[]⟩)=false:=by rw[lK,hO];simp
        rw[j]
        exact next _ ⟨r,.inl ⟨hO,d⟩⟩
      · have j:(!seq e.Op ⟨#[]⟩)=true:=by
          have:e.Op≠⟨#[]⟩:=(show ∀ s∈([⟨#[43]⟩,⟨#[45]⟩]:List Qr),s≠⟨#[]⟩ by decide) _ hO
          rw[lK];simp[this]
        rw[j]
        obtain⟨G,E,F⟩:=Bp k l d
        exact .bindO E (next _ ⟨r,.inr ⟨hO,F⟩⟩)
theorem Gx {N:Nat} (a:1099000000000≤N) (r:ah) (h:lL r.Pats):mF N r=some (bnd r.Pats):=by
  have h1:=sh h
  have c:=xu h
  exact Gw a r OV OV fun p hp=>by
    obtain⟨n,b⟩:=pH h p hp
    have:=b.2.2.1
    omega
theorem Lv {N:Nat} (o:1099000000000≤N) {b:List Int} (l:b.length≤1048576) {c:ab} (g:GC b c) (nm:Qr):Dr b (qX nm) (qm N c nm):=by
  unfold qm
  refine (HY l g _ (by decide)).bind fun u d gd F=>(nh l (gd.at g.1) 3 OV).bind fun v0 Q G S=>?_
  have H:∀ (i:List az) (conds:List fm),lL i→(conds.length≤1∧∀ c∈conds,1≤c.Op∧c.Op≤3∧iO (bnd i) c.L∧iO (bnd i) c.R) →
      ∀ (n:Nat) (s:List fD) (k x h:Int),0≤k→k < n→1≤s.length+k→s.length+k≤3→(∀ a∈s,ww (iO (bnd i)) (ao i) a)→GC b ⟨c.b,x,h⟩→Dr b (qX nm) (hJ N c nm (u,d) i (bnd i) conds n s k x h):=by
    intro i conds hp w n
    have T:=sh hp
    induction n with
    | zero=>intro s k x h y h1;omega
    | succ n z=>
      intro s k x h y h1 I K B j
      simp only[hJ]
      refine .ite (fun hk=>?_) (fun hk=>?_)
      · have hk:=of_decide_eq_true hk
        refine .bindO (Fp o _ (show i.length≤1048576 by omega)) ((Nj o l j _).bind fun a f r A=>?_)
        have U:=A.1
        have:=OB o (b:=b) (vs:=bnd i) (by have:=FK hp;omega) s k (hJ N c nm (u,d) i (bnd i) conds n) (a,f) (R:=qX nm) (m:=a.Args.length) OV (fun es t he=>by
          refine .bindO (tE OV OW) ?_
          rw[wrm hk OV]
          refine z _ (k - 1) _ _ OV OV (by simp;omega) (by simp;omega) (pN B ?_) (r.at (c:=⟨c.b,x,h⟩) j.1)
          refine⟨by dsimp only;omega,he,?_⟩
          rcases A.2.2 with h | h | h
          · exact .inl ⟨h.1,h.2.1,by have:=h.2.2.1;rw[this] at t;exact rv t,h.2.2.2⟩
          · exact .inr (.inl ⟨h.1,h.2.1,by have:=h.2.2.1;rw[this] at t;exact rv t,h.2.2.2⟩)
          · exact .inr (.inr h)) N a.Args [] OV OW OW A.2.1
        exact this
      · have hk:=of_decide_eq_false hk
        exact .ret j ⟨rfl,F,hp,w,by dsimp only;omega,by dsimp only;omega,B⟩
  have C:∀ (i:List az) (conds:List fm),lL i→(conds.length≤1∧∀ c∈conds,1≤c.Op∧c.Op≤3∧iO (bnd i) c.L∧iO (bnd i) c.R)→∀ (x h:Int),GC b ⟨c.b,x,h⟩→Dr b (qX nm) (kt N c nm (u,d) i (bnd i) conds x h):=by
    intro i conds hp w x h j
    unfold kt
    refine (nh l j 3 OV).bind fun v e ge q=>?_
    dsimp only
    rw[wr (show -9223372036854775808≤1+v by omega) OV]
    exact H i conds hp w N [] _ _ _ OV OV (by simp;omega) (by simp;omega) OW (ge.at (c:=⟨c.b,x,h⟩) j.1)
  have D:∀ (i:List az),lL i→∀ (x h:Int),GC b ⟨c.b,x,h⟩→Dr b (qX nm) (kh N c nm (u,d) i x h):=by
    intro i hp x h j
    unfold kh
    have E:(bnd i).length≤4194304:=by have:=FK hp;omega
    refine .bindO (Gx o _ hp) ((tW l j 3).bind fun v e ge _=>.ite (fun _=>?_) (fun _=>?_))
    · refine (Lw l (ge.at (c:=⟨c.b,x,h⟩) j.1)).bind fun cd f r qc=>?_
      obtain⟨l',el,t⟩:=Bp o E qc.2.2.1
      obtain⟨V,L,M⟩:=Bp o E qc.2.2.2
      refine .bindO el (.bindO L (.bindO (tE OW OW) ?_))
      exact C i _ hp ⟨OW,by simp;exact⟨qc.1,qc.2.1,t,M⟩⟩ _ _ (r.at (c:=⟨c.b,x,h⟩) j.1)
    · exact C i [] hp ⟨OW,OW⟩ _ _ (ge.at (c:=⟨c.b,x,h⟩) j.1)
  have O:∀ (n:Nat) (s:List az) (k x h:Int),0≤k→k < n→1≤s.length+k→s.length+k≤3→(∀ p∈s,qR false p)→GC b ⟨c.b,x,h⟩→Dr b (qX nm) (kl N c nm (u,d) n s k x h):=by
    intro n
    induction n with
    | zero=>intro s k x h y h1;omega
    | succ n z=>
      intro s k x h y h1 I K hp j
      simp only[kl]
      refine .ite (fun hk=>?_) (fun hk=>?_)
      · have hk:=of_decide_eq_true hk
        refine (KY o l j false).bind fun p f r qp=>.bindO (tE OV OW) ?_
        rw[wrm hk OV]
        exact z _ (k - 1) _ _ OV OV (by simp;omega) (by simp;omega) (pN hp qp) (r.at (c:=⟨c.b,x,h⟩) j.1)
      · have hk:=of_decide_eq_false hk
        refine (tW l j 3).bind fun v f r _=>.ite (fun _=>?_) (fun _=>?_)
        · refine (KY o l (r.at (c:=⟨c.b,x,h⟩) j.1) true).bind fun p W P qp=>.bindO (tE OV OW) ?_
          exact D _ ⟨s,[p],rfl,OV,OV,OW,hp,by simpa using qp⟩ _ _ (P.at (c:=⟨c.b,x,h⟩) j.1)
        · exact D _ ⟨s,[],OW,OV,OV,OW,hp,OW⟩ _ _ (r.at (c:=⟨c.b,x,h⟩) j.1)
  dsimp only
  rw[wr (show -9223372036854775808≤1+v0 by omega) OV]
  exact O N [] _ _ _ OV OV (by simp;omega) (by simp;omega) OW (G.at g.1)
theorem GH (f:Nat→Int→Option Bool) (a:Nat) (hm:a≤4611686018427387903) (e:Nat→Bool) (z:Bool)
    (h:∀ k (i:Nat),i < a→f (k+1) i=if e i then f k (IntKind.i64.wrap ((i:Int)+1)) else some false) (c:∀ k (i:Nat),i=a→f (k+1) i=some z) :
    ∀ (n i:Nat),i≤a→a - i < n→f n i=some (((List.range a).drop i).all e && z):=by
  intro n
  induction n with
  | zero=>intro i _ h;omega
  | succ n d=>
    intro i g j
    by_cases b:i < a
    · rw[h n i b,hy (by simpa using b),List.getElem_range,p1]
      cases he:e i with
      | false=>simp
      | true=>simp only[if_true,hZ];rw[wr1 i OV,d (i+1) OV OV]
    · have:i=a:=by omega
      rw[c n i this,hB (by simp;omega)]
      simp
theorem in0 (N:Nat) (a b c:Int):tL N a b c=some (decide (b≤a) && decide (a≤c)):=by
  unfold tL
  by_cases h:b≤a<;>simp[h]
theorem in1 (N:Nat) (a b c:Int):dL N a b c=some (decide (b≤a) && decide (a≤c)):=by
  unfold dL
  by_cases h:b≤a<;>simp[h]
def vt (y:UInt8):Bool:=(decide (97≤(y.toNat:Int)) && decide ((y.toNat:Int)≤122)) || (decide (48≤(y.toNat:Int)) && decide ((y.toNat:Int)≤57)) || decide ((y.toNat:Int)=95)
theorem CH (N:Nat) (y:UInt8):jn N (y.toNat:Int)=some (vt y):=by
  unfold jn kJ qW vt
  generalize (y.toNat:Int)=n
  rw[t8,t8,fI,fI,fI,fI,orS,fI,orS]
  rfl
def CN (y:UInt8):Bool:=decide (97≤(y.toNat:Int)) && decide ((y.toNat:Int)≤122)
def wb (s:Qr):Bool:=((List.range s.size).drop 0).all (fun i=>match s.data.toList[i]? with | some y=>vt y | none=>false)
theorem xb (s:Qr):s.data.toList.length=s.size:=rfl
theorem J8 {N:Nat} (c:1048578≤N) (s:Qr) (n:Int) (d:s.size≤1048576):nP N s n=some (wb s && decide ((s.size:Int)≤n)):=by
  unfold nP
  have:fN N s N 0=some (wb s && true):=by
    refine GH (fun n i=>fN N s n i) s.size OV _ _ (fun k i a=>?_) (fun k i a=>?_) N 0 OV OV
    · have b:i < s.data.toList.length:=by rw[xb];exact a
      simp only[fN,ag b,fI,CH,gx b]
      rw[if_pos (by simp;omega)]
      cases vt s.data.toList[i]<;>simp
    · simp only[fN]
      rw[if_neg (by simp;omega)]
  rw[this]
  by_cases h:n < (s.size:Int)
  · rw[if_pos (by simpa using h),decide_eq_false OV,O2]
  · rw[if_neg (by simpa using h),decide_eq_true (show (s.size:Int)≤n by omega)]
theorem Md {N:Nat} (b:1048578≤N) (s:Qr) (c:s.size≤1048576):ig N s=some ((match s.data.toList[0]? with | some y=>CN y | none=>false) && (wb s && decide ((s.size:Int)≤12))):=by
  unfold ig
  rw[J8 b s 12 c]
  by_cases h:0 < s.size
  · have a:0 < s.data.toList.length:=by rw[xb];exact h
    have d:idx s.data.toList 0=some s.data.toList[0]:=by simpa using ag (i:=0) a
    rw[if_pos (by simpa using h),d,gx a]
    have:kJ N (s.data.toList[0].toNat:Int)=some (CN s.data.toList[0]):=by
      unfold kJ CN
      generalize (s.data.toList[0].toNat:Int)=n
      by_cases h1:97≤n<;>simp[h1]
    simp only[fI,this]
    cases CN s.data.toList[0]<;>simp
  · rw[if_neg (by simpa using h),List.getElem?_eq_none (by rw[xb];omega)]
    rfl
def uA (v:bP):Bool:=if v.K=1 then (decide (-1000000000≤v.N) && decide (v.N≤1000000000)) && seq v.S ⟨#[]⟩ else if v.K=2 then decide (v.N=0) && (wb v.S && decide ((v.S.size:Int)≤20)) else false
theorem L7 {N:Nat} (b:1048578≤N) (v:bP) (c:v.S.size≤1048576):po N v=some (uA v):=by
  unfold po uA
  rw[J8 b _ _ c,in1]
  by_cases h1:v.K=1
  · simp only[h1,decide_true,if_true,fI]
    cases (decide (-1000000000≤v.N) && decide (v.N≤1000000000))<;>simp
  · by_cases a:v.K=2
    · by_cases d:v.N=0<;>simp[a,d]
    · simp[h1,a]
def yy (y:UInt8):Bool:=decide (65≤(y.toNat:Int)) && decide ((y.toNat:Int)≤90)
theorem EZ (N:Nat) (y:UInt8):mo N (y.toNat:Int)=some (yy y):=by
  unfold mo yy;cases decide (65≤(y.toNat:Int))<;>rfl
def EV (s:Qr):Bool:=match s.data.toList with
  | []=>false
  | b :: t=>yy b && (t.all (fun y=>vt y || yy y) && decide ((s.size:Int)≤12))
theorem NI {N:Nat} (j:1099000000000≤N) (s:Qr) (k:s.size≤1048576):rI N s=some (EV s):=by
  have c:s.size=s.data.toList.length:=rfl
  have lp:=G9 (iI N s) s.data.toList OV (fun y=>vt y || yy y) true 0 (fun n i y _ f _ a hw=>by
    rw[← c] at a
    simp only[iI,a,if_true,f,fI,CH,EZ,hw]
    cases vt y<;>cases yy y<;>rfl) (fun n i a=>by rw[← c] at a;simp only[iI,a,gb,if_false])
  unfold rI EV
  cases d:s.data.toList with
  | nil=>
    have:s.size=0:=by rw[c,d];rfl
    rw[this];rfl
  | cons b t=>
    have h1:s.size=t.length+1:=by rw[c,d];rfl
    have c1:decide ((s.size:Int) < 1)=false:=decide_eq_false OV
    have:=lp N 0 OV OV OV
    rw[d] at this
    have g:idx (b :: t) 0=some b:=rfl
    simp only[c1,gb,if_false,fI,g,EZ]
    by_cases c2:(s.size:Int)≤12
    · have e:decide (12 < (s.size:Int))=false:=decide_eq_false OV
      simp only[c2,e,decide_true,vj,gb,if_false,fI]
      cases h:yy b with
      | false=>rfl
      | true=>
        simp only[hI,gb,if_false,hZ]
        refine this.trans ?_
        simp[h]
    · have e:decide (12 < (s.size:Int))=true:=decide_eq_true OV
      simp only[c2,e,decide_false,O2,if_true,fI]
def xC (a:cO):Prop:=a.S.size≤1048576∧a.V.S.size≤1048576
def rB (a:cO):Bool:=if a.K=1 then EV a.S && bS a.V ⟨0,0,⟨#[]⟩⟩ else if a.K=2 then uA a.V && seq a.S ⟨#[]⟩ else if a.K=3 then seq a.S ⟨#[]⟩ && bS a.V ⟨0,0,⟨#[]⟩⟩ else false
theorem L3 {N:Nat} (b:1099000000000≤N) (a:cO) (h:xC a):pn N a=some (rB a):=by
  unfold pn rB
  rw[NI b _ h.1,L7 OV _ h.2]
  simp only[fI,t8,decide_eq_true_eq,OX]
  split<;>(try split)<;>(try split)<;>simp[OX]
def uu (a:cO):Bool:=rB a && !decide (a.K=3)
theorem yf {N:Nat} (b:1099000000000≤N) (a:cO) (h:xC a):jI N a=some (uu a):=by
  unfold jI uu;simp only[L3 b a h,fI,t8,OX]
def E8 (e:eo):Prop:=e.Op.size≤1048576∧xC e.L∧xC e.R
def q8 (e:eo):Bool:=if seq e.Op ⟨#[]⟩ then uu e.L && rU e.R ⟨0,⟨#[]⟩,⟨0,0,⟨#[]⟩⟩⟩ else (seq e.Op ⟨#[43]⟩ || seq e.Op ⟨#[45]⟩) && (uu e.L && uu e.R)
theorem LU {N:Nat} (a:1099000000000≤N) (e:eo) (h:E8 e):qC N e=some (q8 e):=by
  unfold qC kv q8
  simp only[yf a _ h.2.1,yf a _ h.2.2,fI,t8]
  cases seq e.Op ⟨#[]⟩<;>cases seq e.Op ⟨#[43]⟩<;>cases seq e.Op ⟨#[45]⟩<;>rfl
def gT (s:Qr):Bool:=(match s.data.toList[0]? with | some y=>CN y | none=>false) && (wb s && decide ((s.size:Int)≤12))
theorem rQ {N:Nat} (b:1099000000000≤N) (s:Qr) (a:s.size≤1048576):ig N s=some (gT s):=Md OV s a
def EK (a:fD):Prop:=a.Name.size≤1048576∧a.Undo.size≤1048576∧a.Args.length≤1048576∧∀ e∈a.Args,E8 e
theorem Mg {N:Nat} (e:1099000000000≤N) (a:fD) (h:EK a):mg N a=some (gT a.Name && (a.Args.all q8 && decide ((a.Args.length:Int)≤5))):=by
  obtain⟨h1,k,l,f⟩:=h
  unfold mg
  have:=G9 (fG N a) a.Args OV q8 true 0 (fun n i y _ g hm b hw=>by
    simp only[fG,b,if_true,g,fI,LU e y (f y hm),hw];cases q8 y<;>rfl) (fun n i b=>by simp only[fG,b,gb,if_false]) N 0 OV OV OV
  have j:fG N a N 0=some (a.Args.all q8):=by simpa using this
  simp only[rQ e _ h1,fI,j]
  cases gT a.Name with
  | false=>rfl
  | true=>
    by_cases c:(a.Args.length:Int)≤5
    · have d:decide (5 < (a.Args.length:Int))=false:=decide_eq_false OV
      simp only[c,d,decide_true,vj,hZ,hI,gb,if_false,fI]
    · have d:decide (5 < (a.Args.length:Int))=true:=decide_eq_true OV
      simp only[c,d,decide_false,O2,hI,gb,if_false,if_true,fI]
def sS (a:fD):Bool:=
  let na:=gT a.Name && (a.Args.all q8 && decide ((a.Args.length:Int)≤5))
  let bare:=seq a.Name ⟨#[]⟩ && decide ((a.Args.length:Int)=0)
  if a.Kind=1 then na && decide (a.N=0) && seq a.Undo ⟨#[]⟩
  else if a.Kind=2 then bare && (decide (0≤a.N) && decide (a.N≤7)) && seq a.Undo ⟨#[]⟩
  else if a.Kind=3 then na && decide (a.N=0) && (seq a.Undo ⟨#[]⟩ || gT a.Undo)
  else if a.Kind=4 then na && (decide (0≤a.N) && decide (a.N≤100000)) && seq a.Undo ⟨#[]⟩
  else if a.Kind=5∨a.Kind=6 then bare && decide (a.N=0) && seq a.Undo ⟨#[]⟩
  else false
theorem N1 {N:Nat} (b:1099000000000≤N) (a:fD) (h:EK a):rJ N a=some (sS a):=by
  have k:=Mg b a h
  obtain⟨h1,l,m,o⟩:=h
  unfold rJ lw sI sS
  simp only[k,rQ b _ l,in1,fI,t8,orS,decide_eq_true_eq]
  generalize gT a.Name=n;generalize a.Args.all q8=e;generalize gT a.Undo=u;generalize seq a.Name ⟨#[]⟩=sn;generalize seq a.Undo ⟨#[]⟩=su
  by_cases c:a.Kind=1
  · simp[c]<;>(cases n<;>cases e<;>simp)
  by_cases d:a.Kind=3
  · simp[d]<;>(cases n<;>cases e<;>simp)
  by_cases f:a.Kind=4
  · simp[f]<;>(cases n<;>cases e<;>simp)
  by_cases g:a.Kind=2
  · simp[g]<;>(cases sn<;>cases su<;>simp)
  by_cases i:a.Kind=5
  · simp[i]<;>(cases sn<;>cases su<;>simp)
  · by_cases j:a.Kind=6
    · simp[j]<;>(cases sn<;>cases su<;>simp)
    · simp[c,g,d,f,i,j]
def FI (p:az):Prop:=p.Kind.size≤1048576∧p.Args.length≤1048576∧∀ a∈p.Args,xC a
def uK (p:az):Bool:=gT p.Kind && (decide ((p.Args.length:Int)≤5) && p.Args.all rB)
theorem Nt {N:Nat} (a:1099000000000≤N) (p:az) (h:FI p):rK N p=some (uK p):=by
  obtain⟨h1,e,d⟩:=h
  have lp:=lp0 a p.Args OV (iM N p) (fun t=>some (t.all rB)) (fun n i x t g1 g2 g3 g4 g5 g6 g7=>by
    simp only[iM,g5,if_true,g4,fI,L3 a x (d x g2),g6,g7,p1];cases rB x<;>rfl) (fun n i g1 g2=>by simp only[iM,g2,gb,if_false];rfl)
  unfold rK uK
  simp only[rQ a _ h1,fI,lp]
  by_cases c:(p.Args.length:Int)≤5
  · have b:decide (5 < (p.Args.length:Int))=false:=decide_eq_false OV
    simp only[c,b,decide_true];cases gT p.Kind<;>simp
  · have b:decide (5 < (p.Args.length:Int))=true:=decide_eq_true OV
    simp only[c,b,decide_false];cases gT p.Kind<;>simp
def DO (c:fm):Prop:=xC c.L∧xC c.R
def tT (c:fm):Bool:=(decide (1≤c.Op) && decide (c.Op≤3)) && (uu c.L && uu c.R)
theorem Lz {N:Nat} (a:1099000000000≤N) (c:fm) (h:DO c):pF N c=some (tT c):=by
  unfold pF tT
  simp only[in1,yf a _ h.1,yf a _ h.2,fI,t8,Bool.and_assoc]
theorem Nx {N:Nat} (d:1099000000000≤N) (xs:List Qr) (v:Qr) (c:xs.length≤4294967296):∃ r,dZ N xs v=some r∧decide (0≤r)=decide (v∈xs):=by
  unfold dZ
  have:=tm (bL N xs v) xs c (fun x=>seq v x) (fun n i x a _ b hw=>by simp only[bL,b,if_true,a,fI,hw]) (fun n i b=>by simp only[bL,b,gb,if_false]) N 0 OV OV
  rw[hY,show ((0:Nat):Int)=0 from rfl] at this
  refine⟨_,this,?_⟩
  rw[HV,vi,O1,decide_eq_true_eq]
  simp only[lK,decide_eq_true_eq]
  constructor
  · rintro⟨x,a,rfl⟩;exact a
  · intro h;exact⟨v,h,rfl⟩
theorem Ld {N:Nat} (a:1099000000000≤N) (xs:List Qr) (v:Qr) (b:xs.length≤4294967296):cP N xs v=some (decide (v∈xs)):=by
  unfold cP
  obtain⟨r,h1,c⟩:=Nx a xs v b
  rw[h1,fI,c]
theorem JL {N:Nat} (a:1099000000000≤N) (s:List Qr) (v:Qr) (b:s.length≤4294967295):ot N s v=some (ed s v):=by
  unfold ot ed
  rw[Ld a s v OV,fI]
  by_cases h:v∈s
  · simp[h]
  · simp only[h,decide_false,gb,if_false,bV (show s.length+[v].length≤4294967296 by simp;omega),fI]
theorem wF {N:Nat} (a:1099000000000≤N) (l:List cO) (s:List Qr) (e:s.length+l.length≤4294967290):l9 N s l=some ((dA l).foldl ed s):=by
  unfold l9
  refine lp' a l OV (gq N l) (fun t s=>some ((dA t).foldl ed s)) (fun s t=>s.length+t.length≤4294967290) s e (fun n s i x t h1 b k f g j c d=>?_) (fun n s i h1 b c=>?_)
  · simp only[gj] at c
    simp only[gq,g,if_true,f,fI,j,dA,JL a s x.S OV]
    by_cases h:x.K=1
    · simp only[h,decide_true,if_true,sj]
      exact d _ (by have:=w6 s x.S;omega)
    · simp only[h,decide_false,gb,if_false]
      exact d _ OV
  · simp only[gq,b,gb,if_false];rfl
theorem Gy {N:Nat} (b:1099000000000≤N) (r:ah) (h:r.Pats.length≤1048576) (j:kK r.Pats≤1048576):mz N r=some ((dB r.Pats).foldl ed []):=by
  unfold mz
  refine lp' b r.Pats OV (gu N r) (fun t s=>some ((dB t).foldl ed s)) (fun s t=>s.length+kK t≤4294967290) [] (by simp;omega) (fun n s i x t h1 a k e f g c d=>?_) (fun n s i h1 a c=>?_)
  · have l:s.length+(x.Args.length+kK t)≤4294967290:=by simpa[kK] using c
    simp only[gu,f,if_true,e,fI,g,dB,wF b x.Args s OV]
    cases m:x.Not with
    | true=>simpa using d s OV
    | false=>
      have h1:=jH x.Args
      have a:=mD (dA x.Args) s
      simpa[vx] using d _ (show ((dA x.Args).foldl ed s).length+kK t≤4294967290 by omega)
  · simp only[gu,a,gb,if_false];rfl
theorem FP {N:Nat} (d:1099000000000≤N) (r:ah) (h:r.Pats.length≤1048576):jK N r=some (ao r.Pats:Int):=by
  unfold jK
  have:=lp' d r.Pats OV (eC N r) (fun t s=>some (s+(ao t:Int))) (fun s t=>0≤s∧s+t.length≤1048576) (0:Int) (by simp;omega) (fun n s i x t h1 a j e f g b c=>by
    simp only[gj] at b
    simp only[eC,f,if_true,e,fI,g,ao]
    cases k:x.Not with
    | true=>simpa using c s OV
    | false=>
      rw[wr (n:=s+1) OV OV]
      have:=c (s+1) OV
      simp only[hW,if_true,this,gb,if_false]
      congr 1;omega) (fun n s i h1 a b=>by simp only[eC,a,gb,if_false,ao];simp)
  simpa using this
def iL (c:Nat):Nat→List az→Bool
  | _,[]=>true
  | i,p :: t=>uK p && ((p.Not == decide (c≤i)) && iL c (i+1) t)
def iy (l:List az):Bool:=(decide (1≤l.length) && decide (l.length≤6)) && ((decide (1≤ao l) && decide (ao l≤3)) && iL (ao l) 0 l)
theorem Mq {N:Nat} (b:1099000000000≤N) (r:ah) (d:r.Pats.length≤1048576) (hp:∀ p∈r.Pats,FI p):pR N r=some (iy r.Pats):=by
  have c:=FP b r d
  have lp:∀ (n i:Nat),i≤r.Pats.length→r.Pats.length - i < n→fF N r n i=some (iL (ao r.Pats) i (r.Pats.drop i)):=by
    intro n
    induction n with
    | zero=>intro i _ h;omega
    | succ n e=>
      intro i m o
      by_cases a:i < r.Pats.length
      · have c1:decide ((i:Int) < (r.Pats.length:Int))=true:=decide_eq_true OV
        rw[hy a]
        simp only[fF,c1,if_true,ag a,fI,Nt b _ (hp _ (hK a)),c,wr1 i OV,e (i+1) OV OV,iL]
        have f:decide ((ao r.Pats:Int)≤(i:Int))=decide (ao r.Pats≤i):=by rw[decide_eq_decide];omega
        rw[f]
        cases uK r.Pats[i]<;>cases r.Pats[i].Not<;>cases decide (ao r.Pats≤i)<;>rfl
      · have c1:decide ((i:Int) < (r.Pats.length:Int))=false:=decide_eq_false OV
        rw[hB OV]
        simp only[fF,c1,gb,if_false];rfl
  have g:=lp N 0 OV OV
  have h1:decide ((1:Int)≤(r.Pats.length:Int))=decide (1≤r.Pats.length):=by rw[decide_eq_decide];omega
  have j:decide ((r.Pats.length:Int)≤6)=decide (r.Pats.length≤6):=by rw[decide_eq_decide];omega
  have k:decide ((1:Int)≤(ao r.Pats:Int))=decide (1≤ao r.Pats):=by rw[decide_eq_decide];omega
  have l:decide ((ao r.Pats:Int)≤3)=decide (ao r.Pats≤3):=by rw[decide_eq_decide];omega
  unfold pR iy
  simp only[in1,fI,c,h1,j,k,l]
  rw[show fF N r N 0=_ from g,hY]
  cases (decide (1≤r.Pats.length) && decide (r.Pats.length≤6))<;>cases (decide (1≤ao r.Pats) && decide (ao r.Pats≤3))<;>rfl
def u7 (vs:List Qr) (c:fm):Bool:=tT c && (lF vs c.L && lF vs c.R)
def qI (vs:List Qr) (e:eo):Bool:=lF vs e.L && lF vs e.R
def va (vs:List Qr) (pos:Nat) (a:fD):Bool:=sS a && (!(decide (a.Kind=2) && decide ((pos:Int)≤a.N)) && a.Args.all (qI vs))
def E0 (r:ah):Prop:=r.Name.size≤1048576∧(r.Pats.length≤1048576∧∀ p∈r.Pats,FI p)∧(r.Conds.length≤1048576∧∀ c∈r.Conds,DO c)∧(r.Acts.length≤1048576∧∀ a∈r.Acts,EK a)∧kK r.Pats≤1048576∧(r.Acts.map fun a=>a.Args.length).sum≤1048576
def ja (r:ah):Bool:=gT r.Name && ((decide (-100≤r.Sal) && decide (r.Sal≤100)) && (iy r.Pats && ((r.Conds.all (u7 (jU r)) && decide (r.Conds.length≤6)) && (r.Acts.all (va (jU r) (ao r.Pats)) && (decide (1≤r.Acts.length) && decide (r.Acts.length≤6))))))
def dm:List fm→List Qr
  | []=>[]
  | c :: t=>dA [c.L,c.R]++dm t
def iC:List eo→List Qr
  | []=>[]
  | e :: t=>dA [e.L,e.R]++iC t
def dR:List fD→List Qr
  | []=>[]
  | a :: t=>iC a.Args++dR t
theorem ut:∀ (l:List fm),(dm l).length≤2*l.length
  | []=>by simp[dm]
  | c :: t=>by have:=ut t;have:=jH [c.L,c.R];simp[dm] at *;omega
theorem uw:∀ (l:List eo),(iC l).length≤2*l.length
  | []=>by simp[iC]
  | c :: t=>by have:=uw t;have:=jH [c.L,c.R];simp[iC] at *;omega
def mV (l:List fD):Nat:=(l.map fun a=>a.Args.length).sum
theorem vP:∀ (l:List fD),(dR l).length≤2*mV l
  | []=>by simp[dR,mV]
  | a :: t=>by have:=vP t;have:=uw a.Args;simp[dR,mV] at *;omega
theorem NE {N:Nat} (d:1099000000000≤N) (x:fD) (a:Nat) (K:List Qr→Int→Option (List Qr)) (l:List fD) (g:List Qr→Option (List Qr)) (s:List Qr) (p:s.length+2*x.Args.length≤4294967280) (q:x.Args.length≤1048576) (r:a≤1048576)
    (f:∀ b,b.length≤s.length+2*x.Args.length→K b ((a+1:Nat):Int)=g b):fo N a K x N s 0=g ((iC x.Args).foldl ed s):=by
  refine lp' d x.Args OV (fo N a K x) (fun t s=>g ((iC t).foldl ed s)) (fun u t=>u.length+2*t.length≤s.length+2*x.Args.length) s OV (fun n u i y t h1 e v h j k c m=>?_) (fun n u i h1 e c=>?_)
  · simp only[gj] at c
    have w:=mD (dA [y.L,y.R]) u
    have o:=jH [y.L,y.R]
    simp only[gj,gm] at o
    simp only[fo,j,if_true,h,fI,wF d [y.L,y.R] u (by simp;omega),k,iC,vx]
    exact m _ OV
  · simp only[fo,e,gb,if_false,wr1 a OV,iC]
    exact f u (by simpa using c)
theorem Ms {N:Nat} (d:1099000000000≤N) (r:ah) (o:r.Conds.length≤1048576) (j:r.Acts.length≤1048576) (l:∀ a∈r.Acts,a.Args.length≤1048576) (he:mV r.Acts≤1048576):mW N r=some ((dm r.Conds++dR r.Acts).foldl ed []):=by
  unfold mW
  have a2:∀ s:List Qr,s.length≤4194304→dV N r N s 0=some ((dR r.Acts).foldl ed s):=fun s p=>
    lp' d r.Acts OV (dV N r) (fun t s=>some ((dR t).foldl ed s)) (fun s t=>s.length+2*mV t≤16777216) s OV (fun n u i x t h1 b m e f k c g=>by
      have q:u.length+2*(x.Args.length+mV t)≤16777216:=by simpa[mV] using c
      simp only[dV,f,if_true,e,fI,dR,vx]
      exact NE d x i (dV N r n) r.Acts (fun h=>some ((dR t).foldl ed h)) u OV (l x b) OV (fun h v=>g h OV)) (fun n u i h1 b c=>by simp only[dV,b,gb,if_false];rfl)
  refine lp' d r.Conds OV (gJ N r) (fun t s=>some ((dm t++dR r.Acts).foldl ed s)) (fun s t=>s.length+2*t.length≤4194304) [] (by simp;omega) (fun n u i x t h1 b m e f k c g=>?_) (fun n u i h1 b c=>?_)
  · simp only[gj] at c
    have w:=mD (dA [x.L,x.R]) u
    have j:=jH [x.L,x.R]
    simp only[gj,gm] at j
    simp only[gJ,f,if_true,e,fI,wF d [x.L,x.R] u (by simp;omega),k,dm,gi]
    rw[vx]
    exact g _ OV
  · simp only[gJ,b,gb,if_false,dm,hz]
    exact a2 u (by simpa using c)
theorem Am (vs:List Qr) (a b:cO):(lF vs a && lF vs b)=true↔∀ x∈dA [a,b],x∈vs:=by
  unfold lF
  simp only[od,hV,List.not_mem_nil,or_false,ha,Bool.or_eq_true,Bool.not_eq_true',decide_eq_false_iff_not,decide_eq_true_eq]
  constructor
  · rintro⟨h1,e⟩ x ⟨c,rfl | rfl,d,rfl⟩
    · exact h1.resolve_left (fun h=>h d)
    · exact e.resolve_left (fun h=>h d)
  · intro h
    refine⟨?_,?_⟩
    · by_cases h1:a.K=1
      · exact .inr (h _ ⟨a,.inl rfl,h1,rfl⟩)
      · exact .inl h1
    · by_cases h1:b.K=1
      · exact .inr (h _ ⟨b,.inr rfl,h1,rfl⟩)
      · exact .inl h1
theorem uJ (vs:List Qr):∀ (l:List fm),(∀ x∈dm l,x∈vs)↔∀ c∈l,(lF vs c.L && lF vs c.R)=true
  | []=>by simp[dm]
  | c :: t=>by
    simp only[dm,gf,or_imp,forall_and,uJ vs t,hV,forall_eq,Am]
theorem uH (vs:List Qr):∀ (l:List eo),(∀ x∈iC l,x∈vs)↔∀ c∈l,qI vs c=true
  | []=>by simp[iC]
  | c :: t=>by
    simp only[iC,gf,or_imp,forall_and,uH vs t,hV,forall_eq,qI,Am]
theorem vB (vs:List Qr):∀ (l:List fD),(∀ x∈dR l,x∈vs)↔∀ a∈l,a.Args.all (qI vs)=true
  | []=>by simp[dR]
  | c :: t=>by
    simp only[dR,gf,or_imp,forall_and,vB vs t,hV,forall_eq,uH,q7]
theorem LE {N:Nat} (j:1099000000000≤N) (r:ah) (h:E0 r):pP N r=some (ja r):=by
  obtain⟨h1,⟨l,p⟩,⟨q,s⟩,⟨u,o⟩,h5,h6⟩:=h
  have D:=H1 h5
  have v:mz N r=some (jU r):=Gy j r l h5
  have w:=Ms j r q u (fun a y=>(o a y).2.2.1) h6
  have ul:((dm r.Conds++dR r.Acts).foldl ed []).length≤4294967296:=by
    have k:=mD (dm r.Conds++dR r.Acts) []
    have a2:=ut r.Conds
    have a3:=vP r.Acts
    have a4:mV r.Acts≤1048576:=h6
    simp only[gk,gm] at k;omega
  have z:fO N (jU r) ((dm r.Conds++dR r.Acts).foldl ed []) N 0=some (((dm r.Conds++dR r.Acts).foldl ed []).all fun x=>decide (x∈jU r)):=
    lp0 j _ ul (fO N (jU r) _) (fun t=>some (t.all fun x=>decide (x∈jU r))) (fun n i x t g1 g2 g3 g4 g5 g6 g7=>by
      simp only[fO,g5,if_true,g4,fI,Ld j _ x (show (jU r).length≤4294967296 by omega),g6,g7,p1]
      cases decide (x∈jU r)<;>rfl) (fun n i g1 g2=>by simp only[fO,g2,gb,if_false];rfl)
  have A:fH N r N 0=some ((r.Acts.all fun a=>sS a && !(decide (a.Kind=2) && decide ((ao r.Pats:Int)≤a.N))) && ((dm r.Conds++dR r.Acts).foldl ed []).all fun x=>decide (x∈jU r)):=
    lp0 j r.Acts OV (fH N r) (fun t=>some ((t.all fun a=>sS a && !(decide (a.Kind=2) && decide ((ao r.Pats:Int)≤a.N))) && ((dm r.Conds++dR r.Acts).foldl ed []).all fun x=>decide (x∈jU r))) (fun n i x t g1 g2 g3 g4 g5 g6 g7=>by
      simp only[fH,g5,if_true,g4,fI,N1 j x (o x g2),FP j r l,g6,g7,p1]
      cases sS x<;>cases decide (x.Kind=2)<;>cases decide ((ao r.Pats:Int)≤x.N)<;>simp) (fun n i g1 g2=>by
      simp only[fH,g2,gb,if_false,v,w,fI,z];rfl)
  have B:fR N r N 0=some (r.Conds.all tT && ((r.Acts.all fun a=>sS a && !(decide (a.Kind=2) && decide ((ao r.Pats:Int)≤a.N))) && ((dm r.Conds++dR r.Acts).foldl ed []).all fun x=>decide (x∈jU r))):=
    lp0 j r.Conds OV (fR N r) (fun t=>some (t.all tT && ((r.Acts.all fun a=>sS a && !(decide (a.Kind=2) && decide ((ao r.Pats:Int)≤a.N))) && ((dm r.Conds++dR r.Acts).foldl ed []).all fun x=>decide (x∈jU r)))) (fun n i x t g1 g2 g3 g4 g5 g6 g7=>by
      simp only[fR,g5,if_true,g4,fI,Lz j x (s x g2),g6,g7,p1]
      cases tT x<;>simp) (fun n i g1 g2=>by
      simp only[fR,g2,gb,if_false,A];rfl)
  have d1:decide ((6:Int) < (r.Conds.length:Int)) = !decide (r.Conds.length≤6):=by rw[← decide_not,decide_eq_decide];omega
  have d2:decide ((1:Int)≤(r.Acts.length:Int))=decide (1≤r.Acts.length):=by rw[decide_eq_decide];omega
  have d3:decide ((r.Acts.length:Int)≤6)=decide (r.Acts.length≤6):=by rw[decide_eq_decide];omega
  have key:(r.Conds.all tT && ((r.Acts.all fun a=>sS a && !(decide (a.Kind=2) && decide ((ao r.Pats:Int)≤a.N))) && ((dm r.Conds++dR r.Acts).foldl ed []).all fun x=>decide (x∈jU r)))=(r.Conds.all (u7 (jU r)) && r.Acts.all (va (jU r) (ao r.Pats))):=by
    rw[vi]
    have C:(((dm r.Conds++dR r.Acts).foldl ed []).all fun x=>decide (x∈jU r))=true↔(∀ c∈r.Conds,(lF (jU r) c.L && lF (jU r) c.R)=true)∧∀ a∈r.Acts,a.Args.all (qI (jU r))=true:=by
      rw[← uJ,← vB]
      simp only[q7,decide_eq_true_eq,rm,List.not_mem_nil,false_or,gf,or_imp,forall_and]
    rw[ha,ha,ha,C]
    simp only[q7,u7,va,ha,forall_and,and_imp]
    constructor
    · rintro⟨k,⟨a2,a3⟩,⟨a4,a5⟩,m⟩;exact⟨⟨k,a4,a5⟩,a2,a3,m⟩
    · rintro⟨⟨k,a4,a5⟩,a2,a3,m⟩;exact⟨k,⟨a2,a3⟩,⟨a4,a5⟩,m⟩
  unfold pP ja
  simp only[rQ j _ h1,fI,in1,Mq j r l p,d1,d2,d3,B,key]
  generalize gT r.Name=a;generalize iy r.Pats=b;generalize (decide (-100≤r.Sal) && decide (r.Sal≤100))=c;generalize decide (r.Conds.length≤6)=d;generalize (decide (1≤r.Acts.length) && decide (r.Acts.length≤6))=e
  generalize r.Conds.all (u7 (jU r))=f;generalize r.Acts.all (va (jU r) (ao r.Pats))=g
  cases a<;>cases b<;>cases c<;>cases d<;>cases e<;>cases f<;>cases g<;>rfl
theorem CY {v:bP} (h:wc v):uA v=true:=by
  rcases h with ⟨n,h1,c,rfl⟩ | ⟨s,a,rfl⟩
  · have b:decide (-1000000000≤n)=true:=decide_eq_true OV
    have a2:decide (n≤1000000000)=true:=decide_eq_true OV
    unfold uA
    simp only[if_true,b,a2,l6,Bool.and_self]
  · exact (show ∀ s∈([⟨#[97]⟩,⟨#[98]⟩]:List Qr),uA ⟨2,0,s⟩=true by decide) s a
def xyz:List Qr:=[⟨#[88]⟩,⟨#[89]⟩,⟨#[90]⟩,⟨#[88]⟩]
theorem Aq:∀ s∈xyz,rB ⟨1,s,⟨0,0,⟨#[]⟩⟩⟩=true:=fun s a=>by
  unfold rB
  simp only[if_true,iG,decide_true,vj]
  exact (show ∀ s∈xyz,EV s=true by decide) s a
theorem H2:rB ⟨3,⟨#[]⟩,⟨0,0,⟨#[]⟩⟩⟩=true:=by
  unfold rB
  simp[l6,iG]
theorem AR {v:bP} (h:wc v):rB ⟨2,⟨#[]⟩,v⟩=true:=by
  unfold rB
  simp only[show ¬ (2:Int)=1 by omega,if_false,if_true,CY h,l6,Bool.and_self]
theorem Hl {a:cO} (h:Du a):rB a=true:=by
  rcases h with rfl | ⟨v,b,rfl⟩ | ⟨s,c,rfl⟩
  · exact H2
  · exact AR b
  · exact Aq s c
theorem C4 {n:Bool} {p:az} (h:qR n p):uK p=true:=by
  obtain⟨_,h1,e,b⟩:=h
  have c:=(show ∀ s∈([⟨#[111,114,100,101,114]⟩,⟨#[112,97,105,100]⟩,⟨#[105,116,101,109]⟩,⟨#[111,114,100,101,114]⟩]:List Qr),gT s=true by decide) _ h1
  unfold uK
  rw[c,decide_eq_true OV,q7.2 fun a d=>Hl (b a d)];rfl
theorem sk:∀ (u v:List az),ao (u++v)=ao u+ao v
  | [],v=>by simp[ao]
  | p :: t,v=>by
    have a:ao (p :: (t++v))=if p.Not then ao (t++v) else ao (t++v)+1:=rfl
    have b:ao (p :: t)=if p.Not then ao t else ao t+1:=rfl
    rw[hS,a,b,sk t v];split<;>omega
theorem tn:∀ (v:List az),(∀ p∈v,qR true p)→ao v=0
  | [],_=>rfl
  | p :: t,h=>by
    unfold ao
    rw[(h p OW).1,if_pos rfl]
    exact tn t fun q a=>h q (by simp[a])
theorem sH:∀ (v:List az),(∀ p∈v,qR false p)→ao v=v.length
  | [],_=>rfl
  | p :: t,h=>by
    unfold ao
    rw[(h p OW).1,sH t fun q a=>h q (by simp[a])];simp
theorem xx (c:Nat):∀ (v:List az) (i:Nat),c≤i→(∀ p∈v,qR true p)→iL c i v=true
  | [],i,_,_=>rfl
  | p :: t,i,a,h=>by
    unfold iL
    rw[C4 (h p OW),(h p OW).1,decide_eq_true a,xx c t (i+1) OV fun q b=>h q (by simp[b])];rfl
theorem wk (c:Nat) (w:List az) (hw:∀ p∈w,qR true p):∀ (v:List az) (i:Nat),i+v.length=c→(∀ p∈v,qR false p)→iL c i (v++w)=true
  | [],i,a,_=>xx c w i (by simp at a;omega) hw
  | p :: t,i,a,h=>by
    simp only[gj] at a
    rw[hS]
    unfold iL
    rw[C4 (h p OW),(h p OW).1,decide_eq_false OV,wk c w hw t (i+1) OV fun q b=>h q (by simp[b])];rfl
theorem vZ {l:List az} (h:lL l):1≤ao l∧ao l≤3:=by
  obtain⟨ps,ns,rfl,h1,c,d,a,b⟩:=h
  rw[sk,tn ns b,sH ps a];omega
theorem H9 {l:List az} (h:lL l):iy l=true:=by
  have a:=vZ h
  obtain⟨ps,ns,rfl,h1,d,f,b,c⟩:=h
  have e:ao (ps++ns)=ps.length:=by rw[sk,tn ns c,sH ps b];omega
  unfold iy
  rw[e] at a ⊢
  rw[wk _ ns c ps 0 OV b,decide_eq_true a.1,decide_eq_true a.2,gk,decide_eq_true (show 1≤ps.length+ns.length by omega),decide_eq_true (show ps.length+ns.length≤6 by omega)];rfl
theorem Jd {l:List az} (h:lL l):∀ s∈bnd l,s∈xyz:=by
  intro s b
  have b:=(rm.1 b).resolve_left OW
  have:∀ (l:List az),(∀ p∈l,∃ n,qR n p)→s∈dB l→s∈xyz:=by
    intro l
    induction l with
    | nil=>intro _ h;simp[dB] at h
    | cons p t d=>
      intro hp hm
      unfold dB at hm
      split at hm
      · exact d (fun q c=>hp q (by simp[c])) hm
      · rcases gf.1 hm with hm | hm
        · obtain⟨a,e,hk,rfl⟩:=od.1 hm
          obtain⟨n,f⟩:=hp p OW
          rcases f.2.2.2 a e with rfl | ⟨v,i,rfl⟩ | ⟨j,g,rfl⟩
          · simp at hk
          · simp at hk
          · exact g
        · exact d (fun q c=>hp q (by simp[c])) hm
  exact this l (pH h) b
theorem ud {l:List az} (h:lL l) {a:cO} (c:iO (bnd l) a):uu a=true∧lF (bnd l) a=true:=by
  rcases c with ⟨v,d,rfl⟩ | ⟨s,b,rfl⟩
  · refine⟨?_,by simp[lF]⟩
    unfold uu
    rw[AR d];rfl
  · refine⟨?_,by simp[lF,b]⟩
    unfold uu
    rw[Aq s (Jd h s b)];rfl
theorem I7:rU Fl ⟨0,⟨#[]⟩,⟨0,0,⟨#[]⟩⟩⟩=true:=by rw[CF];exact decide_eq_true rfl
theorem Cb (vs:List Qr):lF vs Fl=true:=by simp[lF,Fl]
theorem Fm {l:List az} (h:lL l) {e:eo} (he:vS (iO (bnd l)) e):q8 e=true∧qI (bnd l) e=true:=by
  obtain⟨h1,c⟩:=he
  obtain⟨g1,d⟩:=ud h h1
  unfold q8 qI
  rw[d,g1]
  rcases c with ⟨a,b⟩ | ⟨a,b⟩
  · rw[a,b,I7,Cb]
    exact⟨by simp[l6],rfl⟩
  · obtain⟨g2,f⟩:=ud h b
    rw[g2,f]
    refine⟨?_,rfl⟩
    have:=(show ∀ s∈([⟨#[43]⟩,⟨#[45]⟩]:List Qr),seq s ⟨#[]⟩=false∧(seq s ⟨#[43]⟩ || seq s ⟨#[45]⟩)=true by simp only[lK];decide) _ a
    rw[this.1,this.2];rfl
theorem LP {l:List az} (h:lL l) {a:fD} (m:ww (iO (bnd l)) (ao l) a):sS a=true∧va (bnd l) (ao l) a=true:=by
  obtain⟨h1,g,i⟩:=m
  have t:=vZ h
  have o:a.Args.all q8=true:=q7.2 fun e he=>(Fm h (g e he)).1
  have p:a.Args.all (qI (bnd l))=true:=q7.2 fun e he=>(Fm h (g e he)).2
  have q:decide ((a.Args.length:Int)≤5)=true:=decide_eq_true OV
  have ok:sS a=true:=by
    unfold sS
    simp only[o,q]
    rcases i with ⟨k,n,as,b,d,u⟩ | ⟨k,n,as,c,u⟩ | ⟨k,nm,b,u⟩
    · have d:=d OV
      rw[k,n,as,u,decide_eq_true b,decide_eq_true (show a.N≤7 by omega)]
      simp[l6]
    · rw[n,as,u,c]
      rcases k with k | k<;>rw[k]<;>simp[l6]
    · have r:=(show ∀ s∈([⟨#[111,114,100,101,114]⟩,⟨#[112,97,105,100]⟩,⟨#[105,116,101,109]⟩,⟨#[115,104,105,112]⟩,⟨#[99,104,97,114,103,101]⟩]:List Qr),gT s=true by decide) _ nm
      rw[r]
      rcases k with k | k | k
      · have c:a.N=0:=b.resolve_right (fun h=>by have:=h.1;omega)
        have f:a.Undo=⟨#[]⟩:=u.resolve_right (fun h=>by have:=h.1;omega)
        rw[k,c,f];simp[l6]
      · have c:a.N=0:=b.resolve_right (fun h=>by have:=h.1;omega)
        rw[k,c]
        rcases u with u | ⟨_,u⟩
        · rw[u];simp[l6]
        · have:=(show ∀ s∈([⟨#[114,101,102,117,110,100]⟩,⟨#[99,97,110,99,101,108]⟩]:List Qr),gT s=true by decide) _ u
          rw[this];simp
      · have f:a.Undo=⟨#[]⟩:=u.resolve_right (fun h=>by have:=h.1;omega)
        have j:0≤a.N∧a.N≤100000:=by
          rcases b with b | ⟨_,b⟩
          · omega
          · simp at b;omega
        rw[k,f,decide_eq_true j.1,decide_eq_true j.2];simp[l6]
  refine⟨ok,?_⟩
  unfold va
  rw[ok,p]
  have:(decide (a.Kind=2) && decide ((ao l:Int)≤a.N))=false:=by
    rcases i with ⟨k,n,as,b,d,u⟩ | ⟨k,n,as,c,u⟩ | ⟨k,nm,b,u⟩
    · have d:=d OV
      rw[decide_eq_false (show ¬ (ao l:Int)≤a.N by omega)];simp
    · rw[decide_eq_false OV];rfl
    · rw[decide_eq_false OV];rfl
  rw[this];rfl
theorem JW {nm:Qr} (f:gT nm=true) {r:ah} (h:qX nm r):ja r=true:=by
  obtain⟨h1,h2,h3,⟨n,g⟩,h5,h6,h7⟩:=h
  have i:jU r=bnd r.Pats:=rfl
  have e : -100≤r.Sal∧r.Sal≤100:=by simp at h2;omega
  have b:r.Conds.all (u7 (bnd r.Pats))=true:=q7.2 fun c b=>by
    obtain⟨c1,c2,j,k⟩:=g c b
    obtain⟨g1,l⟩:=ud h3 j
    obtain⟨g2,m⟩:=ud h3 k
    unfold u7 tT
    rw[g1,g2,l,m,decide_eq_true c1,decide_eq_true c2];rfl
  have d:r.Acts.all (va (bnd r.Pats) (ao r.Pats))=true:=q7.2 fun a d=>(LP h3 (h7 a d)).2
  unfold ja
  rw[h1,f,i,H9 h3,b,d,decide_eq_true e.1,decide_eq_true e.2,decide_eq_true (show r.Conds.length≤6 by omega),decide_eq_true h5,decide_eq_true (show r.Acts.length≤6 by omega)];rfl
def KS (d:bf):Prop:=d.Name.size≤16∧d.Rules.length≤16∧∀ r∈d.Rules,DM r
def nT:List Qr:=[⟨#[114,49]⟩,⟨#[114,50]⟩,⟨#[114,51]⟩,⟨#[114,52]⟩]
def Dc (d:bf):Prop:=d.Name∈([⟨#[102,108,111,119]⟩,⟨#[115,104,105,112]⟩,⟨#[120]⟩]:List Qr)∧1≤d.Rules.length∧d.Rules.length≤4∧∀ (i:Nat) (r:ah),d.Rules[i]?=some r→∃ nm,nT[i]?=some nm∧qX nm r
theorem GL:∀ s∈nT,s.size≤16:=by decide
theorem CA {d:bf} (h:Dc d):KS d:=by
  obtain⟨h1,j,k,a⟩:=h
  refine⟨(show ∀ s∈([⟨#[102,108,111,119]⟩,⟨#[115,104,105,112]⟩,⟨#[120]⟩]:List Qr),s.size≤16 by decide) _ h1,OV,fun r b=>?_⟩
  obtain⟨i,c,e⟩:=List.getElem_of_mem b
  obtain⟨nm,f,g⟩:=a i r (by rw[gx c,e])
  exact Gd (GL nm (mx f)) g
theorem NJ {N:Nat} (t:1099000000000≤N) {b:List Int} (l:b.length≤1048576) {c:ab} (g:GC b c):Dr b Dc (oy N c):=by
  unfold oy
  refine (vJ l g _ (by decide)).bind fun nm d gd u=>?_
  have lp:∀ (n i:Nat) (s:List ah) (x h:Int),i≤4→4 - i < n→s.length=i→(∀ (j:Nat) (r:ah),s[j]?=some r→∃ nm,nT[j]?=some nm∧qX nm r)→GC b ⟨c.b,x,h⟩→Dr b Dc (jk N c (nm,d) n s (i:Int) x h):=by
    intro n
    induction n with
    | zero=>intro i _ _ _ _ h;omega
    | succ n w=>
      intro i s x h F G H o k
      simp only[jk]
      refine (nh l k 4 OV).bind fun v e ge q=>?_
      dsimp only
      rw[wr (show -9223372036854775808≤1+v by omega) OV]
      by_cases h1:(i:Int) < 1+v∧i < 4
      · have m:decide ((i:Int) < 1+v)=true:=decide_eq_true h1.1
        have y:decide ((i:Int) < 4)=true:=decide_eq_true OV
        have z:idx nT (i:Int)=some (nT[i]'(by unfold nT;simp;omega)):=ag (by unfold nT;simp;omega)
        simp only[m,y,if_true,fI]
        refine .bindO z ((Lv t l (ge.at (c:=⟨c.b,x,h⟩) k.1) _).bind fun r f A qr=>.bindO (tE OV OW) ?_)
        rw[wr1 i OV]
        refine w (i+1) _ _ _ OV OV (by simp;omega) ?_ (A.at (c:=⟨c.b,x,h⟩) k.1)
        intro j B a
        by_cases C:j < s.length
        · rw[nt C] at a;exact o j B a
        · rw[List.getElem?_append_right OV] at a
          have:j=i:=by
            have:=(gI.1 a).1
            simp at this;omega
          subst this
          have D:j - s.length=0:=by omega
          rw[D] at a
          simp at a
          subst a
          exact⟨_,gx _,qr⟩
      · have m:(if decide ((i:Int) < 1+v)=true then some (decide ((i:Int) < 4)) else some false)=some false:=by
          by_cases p:(i:Int) < 1+v
          · have E : ¬ (i:Int) < 4:=by omega
            simp[p,E]
          · simp[p]
        rw[m,fI]
        simp only[gb,if_false]
        exact .ret (ge.at (c:=⟨c.b,x,h⟩) k.1) ⟨u,by dsimp only;omega,by dsimp only;omega,o⟩
  exact lp N 0 [] _ _ OV OV rfl OW (gd.at g.1)
def wY (l:List ah) (v:Qr):Int:=match l.findIdx? (fun r=>seq r.Name v) with | some j=>(j:Int) | none=>-1
theorem OE {N:Nat} (e:1099000000000≤N) (d:bf) (v:Qr) (f:d.Rules.length≤1048576):qA N d v=some (wY d.Rules v):=by
  unfold qA ee wY
  have b:=tm (bq N d.Rules (fun a0=>kf N a0 v)) d.Rules OV (fun x=>seq x.Name v) (fun n i x c _ a hw=>by simp only[bq,kf,a,if_true,c,fI,hw]) (fun n i a=>by simp only[bq,a,gb,if_false]) N 0 OV OV
  rw[show ((0:Nat):Int)=0 from rfl,hY] at b
  rw[b]
  cases d.Rules.findIdx? (fun r=>seq r.Name v)<;>simp
def mL (all:List ah):Nat→List ah→Bool
  | _,[]=>true
  | i,r :: t=>ja r && (decide (wY all r.Name=(i:Int)) && mL all (i+1) t)
def iq (d:bf):Bool:=gT d.Name && ((decide (1≤d.Rules.length) && decide (d.Rules.length≤12)) && mL d.Rules 0 d.Rules)
def pA (d:bf):Prop:=d.Name.size≤1048576∧d.Rules.length≤1048576∧∀ r∈d.Rules,E0 r
theorem IJ {N:Nat} (a:1099000000000≤N) (d:bf) (h:pA d):nV N d=some (iq d):=by
  obtain⟨h1,c,e⟩:=h
  have lp:∀ (n i:Nat),i≤d.Rules.length→d.Rules.length - i < n→gP N d n i=some (mL d.Rules i (d.Rules.drop i)):=by
    intro n
    induction n with
    | zero=>intro i _ h;omega
    | succ n f=>
      intro i j k
      by_cases b:i < d.Rules.length
      · have c1:decide ((i:Int) < (d.Rules.length:Int))=true:=decide_eq_true OV
        rw[hy b]
        simp only[gP,c1,if_true,ag b,fI,LE a _ (e _ (hK b)),OE a d _ c,wr1 i OV,f (i+1) OV OV,mL]
        cases ja d.Rules[i]<;>cases decide (wY d.Rules d.Rules[i].Name=(i:Int))<;>simp
      · have c1:decide ((i:Int) < (d.Rules.length:Int))=false:=decide_eq_false OV
        rw[hB OV]
        simp only[gP,c1,gb,if_false];rfl
  have g:=lp N 0 OV OV
  have d1:decide ((1:Int)≤(d.Rules.length:Int))=decide (1≤d.Rules.length):=by rw[decide_eq_decide];omega
  have d2:decide ((d.Rules.length:Int)≤12)=decide (d.Rules.length≤12):=by rw[decide_eq_decide];omega
  unfold nV iq
  simp only[rQ a _ h1,fI,in1,d1,d2]
  rw[show gP N d N 0=_ from g,hY]
  cases gT d.Name<;>cases (decide (1≤d.Rules.length) && decide (d.Rules.length≤12))<;>rfl
theorem kX {d:bf} (h:iq d=true):∀ r∈d.Rules,ja r=true:=by
  unfold iq at h
  simp only[ha] at h
  have:∀ (l:List ah) (i:Nat),mL d.Rules i l=true→∀ r∈l,ja r=true:=by
    intro l
    induction l with
    | nil=>intro i _ r a;cases a
    | cons x t c=>
      intro i b r a
      unfold mL at b
      simp only[ha] at b
      rcases hV.1 a with rfl | a
      · exact b.1
      · exact c _ b.2.2 r a
  exact this _ _ h.2.2
theorem GT:∀ s∈nT,gT s=true:=by decide
theorem Ef:∀ i,i < 4→∀ j,j < 4→i≠j→(nT[i]?.getD ⟨#[]⟩).data.toList≠(nT[j]?.getD ⟨#[]⟩).data.toList:=by decide
theorem H3 (i:Nat) (a:i < 4) (j:Nat) (b:j < 4) (h:i≠j):seq (nT[i]?.getD ⟨#[]⟩) (nT[j]?.getD ⟨#[]⟩)=false:=by
  have:=Ef i a j b h
  rw[lK]
  exact decide_eq_false fun e=>this (by rw[e])
theorem Co {d:bf} (h:Dc d):iq d=true:=by
  obtain⟨h1,m,x,n⟩:=h
  have o:gT d.Name=true:=(show ∀ s∈([⟨#[102,108,111,119]⟩,⟨#[115,104,105,112]⟩,⟨#[120]⟩]:List Qr),gT s=true by decide) _ h1
  have p:∀ s:Qr,seq s s=true:=fun s=>l6 s
  have nm:∀ (i:Nat) (a:i < d.Rules.length),d.Rules[i].Name=nT[i]?.getD ⟨#[]⟩∧ja d.Rules[i]=true:=fun i a=>by
    obtain⟨nm,c,f⟩:=n i _ (gx a)
    exact⟨by rw[c,f.1];rfl,JW (GT nm (mx c)) f⟩
  have at_:∀ (i:Nat) (a:i < d.Rules.length),wY d.Rules d.Rules[i].Name=(i:Int):=fun i a=>by
    have:d.Rules.findIdx? (fun r=>seq r.Name d.Rules[i].Name)=some i:=by
      rw[si]
      refine⟨a,p _,fun j y=>?_⟩
      have q:j < d.Rules.length:=by omega
      rw[(nm j q).1,(nm i a).1,H3 j OV i OV OV]
      simp
    unfold wY
    rw[this]
  have lp:∀ (t:List ah) (i:Nat),i+t.length=d.Rules.length→(∀ k,(hk:k < t.length)→d.Rules[i+k]?=some t[k])→mL d.Rules i t=true:=by
    intro t
    induction t with
    | nil=>intro i _ _;rfl
    | cons r t u=>
      intro i v hk
      simp only[gj] at v
      have a:i < d.Rules.length:=by omega
      have e:d.Rules[i]=r:=by
        have:=hk 0 OW
        rw[jt,gx a] at this
        simpa using this
      have b:=u (i+1) OV (fun k w=>by have:=hk (k+1) (by simpa using w);rw[show i+1+k=i+(k+1) by omega,this];rfl)
      have g:=at_ i a
      have l:=(nm i a).2
      rw[e] at g l
      unfold mL
      rw[l,b,decide_eq_true g];rfl
  have b:=lp d.Rules 0 OV (fun k hk=>by rw[ho];exact gx hk)
  unfold iq
  rw[o,decide_eq_true m,decide_eq_true (show d.Rules.length≤12 by omega),b];rfl
def Er:List Qr:=[⟨#[111,114,100,101,114]⟩,⟨#[112,97,105,100]⟩,⟨#[105,116,101,109]⟩,⟨#[111,114,100,101,114]⟩]
def tK (f:aL):Prop:=f.Kind∈Er∧f.Fields.length≤5∧∀ v∈f.Fields,wc v
theorem MA {N:Nat} (z:1099000000000≤N) {b:List Int} (l:b.length≤1048576) {c:ab} (g:GC b c):Dr b tK (pB N c):=by
  unfold pB
  refine (vJ l g _ (by decide)).bind fun k d gd hk=>?_
  have lp:∀ (m:Nat),m≤5→∀ (n i:Nat) (s:List bP) (x h:Int),i≤m→m - i < n→s.length=i→(∀ a∈s,wc a)→GC b ⟨c.b,x,h⟩→Dr b tK (kx N c (k,d) (m:Int) n s (i:Int) x h):=by
    intro m hm n
    induction n with
    | zero=>intro i _ _ _ _ h;omega
    | succ n u=>
      intro i s x h A B C p o
      simp only[kx]
      refine .ite (fun r=>?_) (fun D=>.ret o ⟨hk,by dsimp only;omega,p⟩)
      have r:=of_decide_eq_true r
      refine (B9 l o).bind fun a e ge q=>.bindO (tE OV OW) ?_
      rw[wr1 i OV]
      exact u (i+1) _ _ _ OV OV (by simp;omega) (pN p q) (ge.at (c:=⟨c.b,x,h⟩) o.1)
  have t:∀ (m:Nat),m≤5→Dr b tK (iW N c (k,d) (m:Int)):=by
    intro m hm
    unfold iW lT
    refine (tW l (gd.at g.1) 12).bind fun v e ge _=>.ite (fun _=>?_) (fun _=>?_)
    · refine (nh l (ge.at g.1) 6 OV).bind fun w f y hw=>?_
      obtain⟨j,rfl⟩:∃ j:Nat,w=(j:Int):=⟨w.toNat,OV⟩
      exact lp j OV N 0 [] _ _ OV OV rfl OW (y.at g.1)
    · exact lp m hm N 0 [] _ _ OV OV rfl OW (ge.at g.1)
  exact .ite (fun _=>t 2 OV) (fun _=>t 1 OV)
theorem IV {N:Nat} (d:1099000000000≤N) (x y:List bP) (f:x.length≤4294967296):ju N x y=some (decide (x=y)):=by
  unfold ju
  by_cases c:x.length=y.length
  · rw[if_neg (by simp;omega)]
    refine (rj (fb N x y) x y c OV (fun a b=>some (decide (a=b))) (fun a _ b _=>rfl) (fun k i=>by simp only[fb,iG,fI]) N 0 OV OV).trans ?_
    simp
  · rw[if_pos (by simp;omega)]
    have : ¬ x=y:=fun e=>c (by rw[e])
    simp[this]
theorem JX {N:Nat} (e:1099000000000≤N) (x y:aL) (f:x.Fields.length≤4294967296):ng N x y=some (decide (x=y)):=by
  unfold ng
  simp only[IV e _ _ f,fI,t8,lK]
  obtain⟨a,b⟩:=x;obtain⟨c,d⟩:=y
  simp only[aL.mk.injEq,sY]
def Bc (xs:List ak) (f:aL):Int:=match xs.find? (fun x=>decide (x.F=f)) with | some x=>x.Id | none=>0
theorem Gt (x:ak) (xs:List ak) (f:aL):Bc (x :: xs) f=if x.F=f then x.Id else Bc xs f:=by
  unfold Bc
  rw[OY]
  by_cases h:x.F=f<;>simp[h]
theorem IQ {N:Nat} (b:1099000000000≤N) (s:ae) (f:aL) (k:s.Items.length≤1048576) (c:∀ x∈s.Items,x.F.Fields.length≤1048576):rV N s f=some (Bc s.Items f):=by
  unfold rV
  refine lp0 b s.Items OV (jD N s f) (fun t=>some (Bc t f)) (fun n i x t h1 a l d e g j=>?_) (fun n i h1 a=>?_)
  · simp only[jD,e,if_true,d,fI,JX b x.F f (by have:=c x a;omega),g,j,Gt]
    by_cases h:x.F=f<;>simp[h]
  · simp only[jD,a,gb,if_false];rfl
def o5 (nx:Int) (l:List ak):Prop:=1≤nx∧(l.length:Int) < nx∧(∀ x∈l,1≤x.Id∧x.Id < nx∧tK x.F)∧l.Pairwise fun a b=>a.Id < b.Id∧a.F≠b.F
theorem xA {nx:Int} {l:List ak} (h:o5 nx l):∀ x∈l,x.F.Fields.length≤5:=fun x a=>(h.2.2.1 x a).2.2.2.1
theorem LT {N:Nat} (d:1099000000000≤N) (s:ae) (v:Int) (e:s.Items.length≤1048576):∃ q,qt N s v=some (q,⟨s.Items.filter fun x=>!decide (x.Id=v),s.Next⟩):=by
  unfold qt
  have:=lp' d s.Items OV (fun n (u:List ak) i=>(fK N s v n u i).map (·.2)) (fun t u=>some ⟨u++t.filter fun x=>!decide (x.Id=v),s.Next⟩) (fun u t=>u.length+t.length≤1048576) [] (by simpa using e) (fun n u i x t g1 g2 g3 g4 g5 g6 a b=>by
    simp only[gj] at a
    simp only[fK,g5,if_true,g4,fI,g6,j8]
    by_cases h:x.Id=v
    · simp only[h,decide_true,hI,gb,if_false]
      exact b u OV
    · simp only[h,decide_false,hW,if_true,bV (show u.length+[x].length≤4294967296 by simp;omega),fI]
      rw[b _ (by simp;omega)];simp) (fun n u i g1 g2 a=>by simp only[fK,g2,gb,if_false,D0,List.filter_nil,ix])
  simp only[hz] at this
  cases c:fK N s v N [] 0 with
  | none=>rw[c] at this;simp at this
  | some r=>
    rw[c] at this
    simp only[D0,Option.some.injEq] at this
    exact⟨r.1,by rw[← this]⟩
def wV (f:aL):Bool:=gT f.Kind && (f.Fields.all uA && decide (f.Fields.length≤5))
def BN (f:aL):Prop:=f.Kind.size≤1048576∧f.Fields.length≤1048576∧∀ v∈f.Fields,v.S.size≤1048576
def lE (s:ae):Prop:=s.Items.length≤1048576∧∀ x∈s.Items,BN x.F
def mB (done:List ak) (v:Int):Bool:=match done.getLast? with | none=>true | some y=>decide (y.Id < v)
def o4 (nx:Int):List ak→List ak→Bool
  | _,[]=>true
  | done,x :: t=>(wV x.F && (decide (1≤x.Id) && decide (x.Id < nx))) && (mB done x.Id && ((done.all fun y=>!decide (x.F=y.F)) && o4 nx (done++[x]) t))
def fx (s:ae):Bool:=(decide (1≤s.Next) && decide (s.Next≤1000000)) && (decide (s.Items.length≤40) && o4 s.Next [] s.Items)
theorem HU {α:Type} {xs:List α} {i:Nat} (h:0 < i) (a:i≤xs.length):(xs.take i).getLast?=some (xs[i - 1]'OV):=by
  rw[List.getLast?_eq_getElem?,j4,Nat.min_eq_left a,List.getElem?_take_of_lt OV,gx OV]
def zv:bP:=⟨0,0,⟨#[]⟩⟩
def w7 (p:List aw) (n:Qr):bP × Bool:=match p.find? (fun b=>seq b.Name n) with
  | some b=>(b.V,true)
  | none=>(zv,false)
theorem B2 (b:aw) (p:List aw) (n:Qr):w7 (b :: p) n=if seq b.Name n=true then (b.V,true) else w7 p n:=by
  unfold w7;rw[OY]
  cases seq b.Name n<;>simp
theorem Ml {N:Nat} (c:1099000000000≤N) (p:List aw) (n:Qr) (d:p.length≤4294967296):qi N p n=some (w7 p n):=by
  unfold qi
  have:∀ (k i:Nat),i≤p.length→p.length - i < k→j7 N p n k i=some (w7 (p.drop i) n):=by
    intro k
    induction k with
    | zero=>intro i _ h;omega
    | succ k b=>
      intro i e hk
      simp only[j7]
      by_cases a:i < p.length
      · have c1:decide ((i:Int) < (p.length:Int))=true:=decide_eq_true OV
        rw[hy a,B2]
        simp only[c1,if_true,ag a,fI,wr1 i OV,b (i+1) OV OV]
        cases seq p[i].Name n<;>rfl
      · have c1:decide ((i:Int) < (p.length:Int))=false:=decide_eq_false OV
        simp only[c1,gb,if_false]
        rw[hB OV];rfl
  exact this N 0 OV OV
def eF (b0:List aw):List cO→List bP→List aw→List aw × Bool
  | a :: as,v :: vs,s=>
    if a.K=2 then (if bS a.V v=true then eF b0 as vs s else (b0,false))
    else if a.K=1 then (if (w7 s a.S).2=true then (if bS (w7 s a.S).1 v=true then eF b0 as vs s else (b0,false)) else eF b0 as vs (s++[⟨a.S,v⟩]))
    else eF b0 as vs s
  | _,_,s=>(s,true)
theorem CV {N:Nat} (k:1099000000000≤N) (p:az) (f:aL) (b:List aw) (he:p.Args.length=f.Fields.length) (m:p.Args.length≤1048576) (o:b.length≤2147483648):∀ (n i:Nat) (s:List aw),i≤p.Args.length→p.Args.length - i < n→s.length≤2147483648+i →
    gH N p f b n s i=some (eF b (p.Args.drop i) (f.Fields.drop i) s):=by
  intro n
  induction n with
  | zero=>intro i s _ h;omega
  | succ n d=>
    intro i s q r t
    simp only[gH]
    by_cases e:i < p.Args.length
    · have c1:decide ((i:Int) < (p.Args.length:Int))=true:=decide_eq_true OV
      have g:i < f.Fields.length:=by omega
      rw[hy e,hy g,eF]
      simp only[c1,if_true,ag e,ag g,fI,Ml k s _ (show s.length≤4294967296 by omega),gD (show b.length≤4294967296 by omega),bV (show s.length+[(⟨p.Args[i].S,f.Fields[i]⟩:aw)].length≤4294967296 by simp;omega),wr1 i OV,t8,orS]
      have c:=d (i+1) s OV OV OV
      have l:=d (i+1) (s++[⟨p.Args[i].S,f.Fields[i]⟩]) OV OV (by simp;omega)
      by_cases j:p.Args[i].K=2
      · have a : ¬ p.Args[i].K=1:=by omega
        simp only[j,a,decide_true,decide_false,if_true,if_false,hZ,qa,vy,gb,fI,show ¬ (2:Int)=1 by omega]
        cases bS p.Args[i].V f.Fields[i] with
        | true=>simpa using c
        | false=>simp
      · by_cases a:p.Args[i].K=1
        · simp only[a,decide_true,decide_false,if_true,if_false,hZ,qa,G0,gb,fI,show ¬ (1:Int)=2 by omega]
          cases (w7 s p.Args[i].S).2 with
          | true=>
            simp only[if_true,hI,hZ,gb,if_false]
            cases bS (w7 s p.Args[i].S).1 f.Fields[i] with
            | true=>simpa using c
            | false=>simp
          | false=>simpa using l
        · simp only[a,j,decide_false,if_false,qa,G0,vy,gb,fI]
          simpa using c
    · have c1:decide ((i:Int) < (p.Args.length:Int))=false:=decide_eq_false OV
      simp only[c1,gb,if_false]
      rw[hB OV]
      rfl
def bz (p:az) (f:aL) (b:List aw):List aw × Bool:=if seq p.Kind f.Kind=true∧p.Args.length=f.Fields.length then eF b p.Args f.Fields b else (b,false)
theorem EI {N:Nat} (c:1099000000000≤N) (p:az) (f:aL) (b:List aw) (d:p.Args.length≤1048576) (e:b.length≤2147483648):lz N p f b=some (bz p f b):=by
  unfold lz bz
  rw[gD OV]
  simp only[fI,orS]
  cases hk:seq p.Kind f.Kind with
  | false=>simp
  | true=>
    by_cases he:p.Args.length=f.Fields.length
    · have a:decide ((p.Args.length:Int)=(f.Fields.length:Int))=true:=decide_eq_true OV
      have:=(CV c p f b he d e N 0 b OV OV OV)
      simp only[a,he,hI,vy,gb,if_false,true_and,if_true]
      simpa using this
    · have a:decide ((p.Args.length:Int)=(f.Fields.length:Int))=false:=decide_eq_false OV
      simp[a,he]
theorem qZ {b0:List aw}:∀ (as:List cO) (vs:List bP) (s:List aw),(eF b0 as vs s).1.length≤b0.length∨(eF b0 as vs s).1.length≤s.length+as.length
  | [],vs,s=>.inr (by simp[eF])
  | a :: as,[],s=>.inr (by simp[eF])
  | a :: as,v :: vs,s=>by
    have h1:=qZ (b0:=b0) as vs s
    have b:=qZ (b0:=b0) as vs (s++[⟨a.S,v⟩])
    simp only[gk,gj,gm] at h1 b ⊢
    unfold eF
    split
    · split
      · omega
      · exact .inl (hA _)
    · split
      · split
        · split
          · omega
          · exact .inl (hA _)
        · omega
      · omega
theorem lB (p:az) (f:aL) (b:List aw):(bz p f b).1.length≤b.length+p.Args.length:=by
  unfold bz
  split
  · have:=qZ (b0:=b) p.Args f.Fields b;omega
  · simp
def ta (p:az) (l:List aw) (xs:List ak):Nat:=xs.countP fun x=>(bz p x.F l).2
def nf (ps:List az) (xs:List ak) (l:List aw):Bool:=ps.any fun p=>p.Not && xs.any fun x=>(bz p x.F l).2
theorem vR (p:az) (l:List aw) (xs:List ak):ta p l xs≤xs.length:=List.countP_le_length
theorem C5 (p:az) (l:List aw) (xs:List ak):decide ((0:Int) < (ta p l xs:Int))=xs.any fun x=>(bz p x.F l).2:=by
  rw[vi,decide_eq_true_eq,O1]
  have:(0:Int) < (ta p l xs:Int)↔0 < ta p l xs:=by omega
  rw[this,ta,List.countP_pos_iff]
def oP (a:cO) (l:List aw):bP × Bool:=if a.K=2 then (a.V,true) else if a.K=1 then w7 l a.S else (zv,false)
def J4 (x y:bP):Bool:=if x.K=y.K then (if x.N=y.N then slt x.S y.S else decide (x.N < y.N)) else decide (x.K < y.K)
def holds (c:fm) (l:List aw):Bool:=((oP c.L l).2 && (oP c.R l).2) && (if c.Op=1 then decide ((oP c.L l).1=(oP c.R l).1) else if c.Op=2 then !decide ((oP c.L l).1=(oP c.R l).1) else if c.Op=3 then J4 (oP c.L l).1 (oP c.R l).1 else false)
def dE (l:List az):Nat:=(l.map fun p=>p.Args.length).sum
theorem eX (p:az) (t:List az):dE (p :: t)=p.Args.length+dE t:=by simp[dE]
theorem rX (n:Nat):∀ (l:List az),dE (l.take n)≤dE l:=by
  induction n with
  | zero=>intro l;simp[dE]
  | succ n a=>
    intro l
    cases l with
    | nil=>simp
    | cons p t=>rw[List.take_succ_cons,eX,eX];have:=a t;omega
def lJ (fin:List Int→List aw→List a7) (xs:List ak):List az→List Int→List aw→List a7
  | [],ids,l=>fin ids l
  | p :: t,ids,l=>xs.flatMap fun x=>if (bz p x.F l).2=true then lJ fin xs t (ids++[x.Id]) (bz p x.F l).1 else []
def yk (r:ah) (xs:List ak) (ids:List Int) (l:List aw):List a7:=if (!nf r.Pats xs l && r.Conds.all fun c=>holds c l)=true then [⟨0,ids,l⟩] else []
def jw (r:ah) (xs:List ak):List a7:=lJ (yk r xs) xs (r.Pats.take (ao r.Pats)) [] []
theorem xw {α β:Type} {f:α→List β} {M:Nat}:∀ (l:List α),(∀ x∈l,(f x).length≤M)→(l.flatMap f).length≤l.length*M
  | [],_=>by simp
  | x :: t,h=>by
    have h1:=xw t fun y a=>h y (by simp[a])
    have b:=h x OW
    rw[n0,gk,gj,hE];omega
theorem uj {fin:List Int→List aw→List a7} (a:∀ ids l,(fin ids l).length≤1) (xs:List ak):∀ (ps:List az) (ids:List Int) (l:List aw),(lJ fin xs ps ids l).length≤xs.length ^ ps.length
  | [],ids,l=>by simpa[lJ] using a ids l
  | p :: t,ids,l=>by
    unfold lJ
    rw[gj,Nat.pow_succ,Nat.mul_comm]
    refine xw xs fun x b=>?_
    split
    · exact uj a xs t _ _
    · exact my _
theorem vC (r:ah) (xs:List ak) (ids:List Int) (l:List aw):(yk r xs ids l).length≤1:=by unfold yk;split<;>simp
structure yA (r:ah) (s:ae):Prop where
  pl:r.Pats.length≤1048576
  pa:∀ p∈r.Pats,p.Args.length≤1048576
  sa:dE r.Pats≤1048576
  cl:r.Conds.length≤1048576
  xl:s.Items.length≤1048576
  nm:s.Items.length ^ ao r.Pats≤1073741824
theorem C7 {fin:List Int→List aw→List a7} (a:∀ ids l,∀ m∈fin ids l,m.Ids=ids∧m.Binds=l) (xs:List ak):∀ (ps:List az) (ids:List Int) (l:List aw),∀ m∈lJ fin xs ps ids l,m.Ids.length=ids.length+ps.length∧m.Binds.length≤l.length+dE ps
  | [],ids,l,m,hm=>by
    obtain⟨h1,b⟩:=a ids l m (by simpa[lJ] using hm)
    rw[h1,b];simp
  | p :: t,ids,l,m,hm=>by
    unfold lJ at hm
    obtain⟨x,c,hm⟩:=jf.1 hm
    split at hm
    · have h1:=C7 a xs t (ids++[x.Id]) (bz p x.F l).1 m hm
      have b:=lB p x.F l
      rw[eX]
      simp only[gk,gj,gm] at h1 ⊢
      omega
    · cases hm
theorem JY (r:ah) (xs:List ak):∀ ids l,∀ m∈yk r xs ids l,m.Ids=ids∧m.Binds=l:=by
  intro ids l m hm
  unfold yk at hm
  split at hm
  · simp at hm;rw[hm];exact⟨rfl,rfl⟩
  · cases hm
def pos (l:List az):List az:=l.filter fun p=>!p.Not
theorem qT:∀ (l:List az),dE (pos l)≤dE l
  | []=>by simp[pos]
  | p :: t=>by
    have:=qT t
    unfold pos at this ⊢
    rw[j8,eX]
    split
    · rw[eX];omega
    · omega
theorem z8 (l:List az):(l.filter fun p=>p.Not == false)=pos l:=by
  unfold pos;congr 1;funext p;cases p.Not<;>rfl
def DQ:aL:=⟨⟨#[]⟩,[]⟩
def aF (xs:List ak) (v:Int):aL × Bool:=match xs.find? (fun x=>decide (x.Id=v)) with | some x=>(x.F,true) | none=>(DQ,false)
theorem jG (x:ak) (xs:List ak) (v:Int):aF (x :: xs) v=if x.Id=v then (x.F,true) else aF xs v:=by
  unfold aF
  rw[OY]
  by_cases h:x.Id=v<;>simp[h]
theorem Dx {xs:List ak} (a:∀ x∈xs,x.F.Fields.length≤1048576) (v:Int):(aF xs v).1.Fields.length≤1048576:=by
  unfold aF
  split
  · rename_i x h;exact a x (K1 h)
  · simp[DQ]
def be (xs:List ak):List az→List Int→List aw→List aw × Bool
  | [],[],l=>(l,true)
  | p :: t,v :: ids,l=>if (aF xs v).2=true∧(bz p (aF xs v).1 l).2=true then be xs t ids (bz p (aF xs v).1 l).1 else ([],false)
  | _,_,_=>([],false)
theorem xq {xs:List ak}:∀ {ps:List az} {ids:List Int} {l:List aw},ps.length≠ids.length→be xs ps ids l=([],false)
  | [],[],l,h=>absurd rfl h
  | [],v :: ids,l,h=>rfl
  | p :: t,[],l,h=>rfl
  | p :: t,v :: ids,l,h=>by
    unfold be
    split
    · exact xq (by simpa using h)
    · rfl
theorem uQ {xs:List ak}:∀ (ps:List az) (ids:List Int) (l:List aw),(be xs ps ids l).1.length≤l.length+dE ps
  | [],[],l=>by simp[be]
  | [],v :: ids,l=>by simp[be]
  | p :: t,[],l=>by simp[be]
  | p :: t,v :: ids,l=>by
    have h1:=lB p (aF xs v).1 l
    have a:=uQ (xs:=xs) t ids (bz p (aF xs v).1 l).1
    rw[eX]
    unfold be
    split
    · omega
    · simp
def jB:List Int→List Int→Bool
  | a :: x,b :: y=>if a=b then jB x y else decide (a < b)
  | _,_=>false
def mN (x y:a7):Bool:=if x.Rule=y.Rule then (if x.Ids.length=y.Ids.length then jB x.Ids y.Ids else decide (x.Ids.length < y.Ids.length)) else decide (x.Rule < y.Rule)
theorem Dq:∀ (x y:List Int),(jB x y && jB y x)=false
  | [],_=>by simp[jB]
  | _ :: _,[]=>by simp[jB]
  | a :: x,b :: y=>by
    unfold jB
    by_cases h:a=b
    · simp only[h,if_true];exact Dq x y
    · have c : ¬ b=a:=fun e=>h e.symm
      simp only[h,c,if_false]
      rw[← sY,decide_eq_false_iff_not];omega
theorem Fk:∀ (x y:List Int),x.length=y.length→(jB x y || jB y x) = !decide (x=y)
  | [],[],_=>by simp[jB]
  | [],_ :: _,h=>by simp at h
  | _ :: _,[],h=>by simp at h
  | a :: x,b :: y,c=>by
    unfold jB
    by_cases h:a=b
    · subst h
      simp only[if_true,Fk x y (by simpa using c),List.cons.injEq,true_and]
    · have d : ¬ b=a:=fun e=>h e.symm
      simp only[h,d,if_false,List.cons.injEq,false_and,decide_false,hW]
      rw[← Bool.decide_or,decide_eq_true_eq];omega
theorem GQ (x y:a7):(mN x y && mN y x)=false:=by
  unfold mN
  by_cases a:x.Rule=y.Rule
  · by_cases b:x.Ids.length=y.Ids.length
    · simp only[a,b,if_true];exact Dq _ _
    · have c : ¬ y.Ids.length=x.Ids.length:=fun e=>b e.symm
      simp only[a,b,c,if_true,if_false]
      rw[← sY,decide_eq_false_iff_not];omega
  · have d : ¬ y.Rule=x.Rule:=fun e=>a e.symm
    simp only[a,d,if_false]
    rw[← sY,decide_eq_false_iff_not];omega
theorem AN:∀ (x y z:List Int),jB x y=true→jB y z=true→x.length=y.length→y.length=z.length→jB x z=true
  | [],_,_,h,_,_,_=>by simp[jB] at h
  | a :: x,[],_,h,_,_,_=>by simp[jB] at h
  | a :: x,b :: y,[],_,h,_,_=>by simp[jB] at h
  | a :: x,b :: y,c :: z,h1,d,g,i=>by
    unfold jB at h1 d ⊢
    by_cases f:a=b
    · by_cases e:b=c
      · rw[if_pos f] at h1;rw[if_pos e] at d;rw[if_pos (f.trans e)]
        exact AN x y z h1 d (by simpa using g) (by simpa using i)
      · rw[if_neg e] at d;rw[if_neg OV]
        simp only[decide_eq_true_eq] at d ⊢;omega
    · rw[if_neg f] at h1
      simp only[decide_eq_true_eq] at h1
      by_cases e:b=c
      · rw[if_neg OV];simp only[decide_eq_true_eq];omega
      · rw[if_neg e] at d
        simp only[decide_eq_true_eq] at d
        rw[if_neg OV];simp only[decide_eq_true_eq];omega
theorem DF {x y z:a7} (h1:mN x y=true) (a:mN y z=true):mN x z=true:=by
  unfold mN at h1 a ⊢
  by_cases e:x.Rule=y.Rule
  · rw[if_pos e] at h1
    by_cases c:y.Rule=z.Rule
    · rw[if_pos c] at a
      rw[if_pos (e.trans c)]
      by_cases d:x.Ids.length=y.Ids.length
      · rw[if_pos d] at h1
        by_cases b:y.Ids.length=z.Ids.length
        · rw[if_pos b] at a
          rw[if_pos (d.trans b)]
          exact AN _ _ _ h1 a d b
        · rw[if_neg b] at a
          rw[if_neg OV]
          simp only[decide_eq_true_eq] at a ⊢;omega
      · rw[if_neg d] at h1
        simp only[decide_eq_true_eq] at h1
        by_cases b:y.Ids.length=z.Ids.length
        · rw[if_neg OV];simp only[decide_eq_true_eq];omega
        · rw[if_neg b] at a
          simp only[decide_eq_true_eq] at a
          rw[if_neg OV];simp only[decide_eq_true_eq];omega
    · rw[if_neg c] at a
      rw[if_neg OV]
      simp only[decide_eq_true_eq] at a ⊢;omega
  · rw[if_neg e] at h1
    simp only[decide_eq_true_eq] at h1
    by_cases c:y.Rule=z.Rule
    · rw[if_neg OV];simp only[decide_eq_true_eq];omega
    · rw[if_neg c] at a
      simp only[decide_eq_true_eq] at a
      rw[if_neg OV];simp only[decide_eq_true_eq];omega
def pJ (xs:List ak):Prop:=xs.Pairwise fun a b=>a.Id < b.Id
theorem yz {x:ak}:∀ {xs:List ak},pJ xs→x∈xs→aF xs x.Id=(x.F,true)
  | [],_,h=>by cases h
  | y :: t,hu,h=>by
    obtain⟨h1,a⟩:=List.pairwise_cons.1 hu
    rw[jG]
    rcases hV.1 h with rfl | h
    · rw[if_pos rfl]
    · have:=h1 x h
      rw[if_neg OV]
      exact yz a h
theorem Cr {xs:List ak} {v:Int} (h:(aF xs v).2=true):∃ x∈xs,x.Id=v∧aF xs v=(x.F,true):=by
  unfold aF at h ⊢
  cases a:xs.find? (fun x=>decide (x.Id=v)) with
  | none=>rw[a] at h;simp at h
  | some x=>
    have:=List.find?_some a
    exact⟨x,K1 a,by simpa using this,rfl⟩
theorem uf {fin:List Int→List aw→List a7} {xs:List ak} (hu:pJ xs):∀ (ps:List az) (ids:List Int) (l:List aw) (m:a7),m∈lJ fin xs ps ids l→∃ a b,be xs ps a l=(b,true)∧m∈fin (ids++a) b
  | [],ids,l,m,h=>⟨[],l,rfl,by simpa[lJ] using h⟩
  | p :: t,ids,l,m,h=>by
    unfold lJ at h
    obtain⟨x,c,h⟩:=jf.1 h
    by_cases hm:(bz p x.F l).2=true
    · rw[if_pos hm] at h
      obtain⟨a,b,h1,d⟩:=uf hu t _ _ m h
      refine⟨x.Id :: a,b,?_,by simpa using d⟩
      have e:=yz hu c
      unfold be
      rw[e]
      simp only[hm,and_self,if_true]
      exact h1
    · rw[if_neg hm] at h;cases h
theorem C6 {fin:List Int→List aw→List a7} {xs:List ak}:∀ (ps:List az) (a ids:List Int) (l b:List aw),be xs ps a l=(b,true)→∀ m∈fin (ids++a) b,m∈lJ fin xs ps ids l
  | [],[],ids,l,b,h,m,hm=>by
    have:l=b:=by have:=congrArg Prod.fst h;simpa[be] using this
    subst this
    simpa[lJ] using hm
  | [],v :: a,ids,l,b,h,m,hm=>by simp[be] at h
  | p :: t,[],ids,l,b,h,m,hm=>by simp[be] at h
  | p :: t,v :: a,ids,l,b,h,m,hm=>by
    unfold be at h
    split at h
    · rename_i c
      obtain⟨x,d,rfl,e⟩:=Cr c.1
      rw[e] at h c
      unfold lJ
      refine jf.2 ⟨x,d,?_⟩
      rw[if_pos c.2]
      exact C6 t a (ids++[x.Id]) _ b h m (by simpa using hm)
    · simp at h
theorem FE:∀ (p x y:List Int),jB (p++x) (p++y)=jB x y
  | [],x,y=>rfl
  | a :: p,x,y=>by
    show (if a=a then jB (p++x) (p++y) else decide (a < a))=jB x y
    rw[if_pos rfl]
    exact FE p x y
theorem vL {fin:List Int→List aw→List a7} {xs:List ak} (hu:pJ xs) (f:∀ ids l,(fin ids l).length≤1) (c:∀ ids l,∀ m∈fin ids l,m.Ids=ids):∀ (ps:List az) (ids:List Int) (l:List aw),(lJ fin xs ps ids l).Pairwise fun a b=>jB a.Ids b.Ids=true
  | [],ids,l=>by
    unfold lJ
    have:=f ids l
    match h:fin ids l with
    | []=>exact List.Pairwise.nil
    | [a]=>exact List.pairwise_singleton _ a
    | a :: b :: t=>rw[h] at this;simp at this
  | p :: t,ids,l=>by
    unfold lJ
    rw[List.pairwise_flatMap]
    refine⟨fun x j=>?_,hu.imp fun {x y} g=>?_⟩
    · split
      · exact vL hu f c t _ _
      · exact List.Pairwise.nil
    · intro a d b e
      split at d
      · split at e
        · obtain⟨s1,k,_,h1⟩:=uf hu t _ _ a d
          obtain⟨s2,n,_,i⟩:=uf hu t _ _ b e
          rw[c _ _ a h1,c _ _ b i,gi,gi,FE,Pd,Pd]
          unfold jB
          rw[if_neg OV]
          simpa using g
        · cases e
      · cases d
theorem yq {xs:List ak}:∀ (ps:List az) (ids:List Int) (l b:List aw),be xs ps ids l=(b,true)→ids.length=ps.length:=by
  intro ps ids l b h
  by_cases he:ps.length=ids.length
  · exact he.symm
  · rw[xq he] at h;simp at h
theorem Cg (r:ah) (xs:List ak):∀ ids l,∀ m∈yk r xs ids l,m=⟨0,ids,l⟩∧(!nf r.Pats xs l && r.Conds.all fun c=>holds c l)=true:=by
  intro ids l m hm
  unfold yk at hm
  split at hm
  · rename_i a
    simp at hm;exact⟨hm,a⟩
  · cases hm
theorem pI {r:ah} {xs:List ak} (hu:pJ xs) {m:a7} (h:m∈jw r xs):m.Rule=0∧be xs (r.Pats.take (ao r.Pats)) m.Ids []=(m.Binds,true)∧(!nf r.Pats xs m.Binds && r.Conds.all fun c=>holds c m.Binds)=true:=by
  unfold jw at h
  obtain⟨e,b,h1,a⟩:=uf hu _ _ _ m h
  obtain⟨rfl,d⟩:=Cg r xs _ _ m a
  exact⟨rfl,by simpa using h1,d⟩
theorem Gl {r:ah} {xs:List ak} {ids:List Int} {b:List aw} (h:be xs (r.Pats.take (ao r.Pats)) ids []=(b,true)) (a:(!nf r.Pats xs b && r.Conds.all fun c=>holds c b)=true):(⟨0,ids,b⟩:a7)∈jw r xs:=by
  unfold jw
  refine C6 _ ids [] [] b h _ ?_
  unfold yk
  rw[if_pos a];simp
theorem Af {r:ah} {xs:List ak} (hu:pJ xs):(jw r xs).Pairwise fun a b=>mN a b=true:=by
  have h1:=vL hu (vC r xs) (fun ids l m hm=>by rw[(Cg r xs ids l m hm).1]) (r.Pats.take (ao r.Pats)) [] []
  have c:∀ m∈jw r xs,m.Rule=0∧m.Ids.length=(r.Pats.take (ao r.Pats)).length:=fun m hm=>by
    obtain⟨a,b,_⟩:=pI hu hm
    exact⟨a,yq _ _ _ _ b⟩
  refine List.Pairwise.imp_of_mem (fun {a b} d e f=>?_) h1
  obtain⟨g,a2⟩:=c a d
  obtain⟨h,i⟩:=c b e
  unfold mN
  rw[if_pos (by rw[g,h]),if_pos (by rw[a2,i])]
  exact f
theorem GF {f:aL} (h:tK f):wV f=true:=by
  obtain⟨h1,a,b⟩:=h
  have c:=(show ∀ s∈Er,gT s=true by decide) _ h1
  unfold wV
  rw[c,decide_eq_true a,q7.2 fun v d=>CY (b v d)];rfl
theorem Gp {f:aL} (h:tK f):BN f:=by
  obtain⟨h1,c,a⟩:=h
  have d:=(show ∀ s∈Er,s.size≤16 by decide) _ h1
  exact⟨OV,OV,fun v b=>by have:=yJ (a v b);omega⟩
theorem CS {nx:Int}:∀ (t done:List ak),(∀ x∈t,1≤x.Id∧x.Id < nx∧tK x.F)→(done++t).Pairwise (fun a b=>a.Id < b.Id∧a.F≠b.F)→o4 nx done t=true
  | [],done,_,_=>rfl
  | x :: t,done,h,hp=>by
    obtain⟨h1,f,g⟩:=h x OW
    have d:=List.pairwise_append.1 hp
    have i:mB done x.Id=true:=by
      unfold mB
      cases j:done.getLast? with
      | none=>rfl
      | some y=>exact decide_eq_true (d.2.2 y (List.mem_of_getLast? j) x OW).1
    have k:(done.all fun y=>!decide (x.F=y.F))=true:=q7.2 fun y c=>by
      have:=(d.2.2 y c x OW).2
      rw[decide_eq_false fun e=>this e.symm];rfl
    unfold o4
    rw[GF g,decide_eq_true h1,decide_eq_true f,i,k,CS t (done++[x]) (fun y c=>h y (by simp[c])) (by simpa using hp)];rfl
theorem te {a:cO} (h:tU a):xC a:=by have:=h.1;have:=h.2;exact⟨OV,OV⟩
theorem Ip {p:az} (h:J0 p):FI p:=by
  obtain⟨h1,d,b⟩:=h
  exact⟨OV,OV,fun a c=>te (b a c)⟩
theorem GU {c:fm} (h:J1 c):DO c:=⟨te h.1,te h.2⟩
theorem Gi {e:eo} (h:Ew e):E8 e:=by
  obtain⟨h1,a,b⟩:=h
  exact⟨OV,te a,te b⟩
theorem Ie {a:fD} (h:Hy a):EK a:=by
  obtain⟨h1,d,b,e⟩:=h
  exact⟨OV,OV,OV,fun a c=>Gi (b a c)⟩
theorem Au {B:Nat}:∀ {l:List fD},(∀ p∈l,p.Args.length≤B)→mV l≤l.length*B
  | [],_=>by simp[mV]
  | p :: t,h=>by
    have h1:=Au (l:=t) fun q a=>h q (by simp[a])
    have c:=h p OW
    have b:mV (p :: t)=p.Args.length+mV t:=by simp[mV]
    rw[b,gj,hE];omega
theorem GN {r:ah} (h:DM r):E0 r:=by
  obtain⟨h1,⟨i,d⟩,⟨j,f⟩,h4,e⟩:=h
  have k:=yG (B:=16) fun p hp=>(d p hp).2.1
  have l:=Au (B:=16) fun a b=>(e a b).2.1
  exact⟨OV,⟨OV,fun p hp=>Ip (d p hp)⟩,⟨OV,fun c g=>GU (f c g)⟩,⟨OV,fun a b=>Ie (e a b)⟩,OV,by
    have:mV r.Acts≤1048576:=by omega
    exact this⟩
theorem CZ {d:bf} (h:KS d):pA d:=by
  obtain⟨h1,c,a⟩:=h
  exact⟨OV,OV,fun r b=>GN (a r b)⟩
def l7:List cO→List bP
  | []=>[]
  | a :: t=>if a.K=2 then a.V :: l7 t else l7 t
def ats:Nat→List cO→List Int
  | _,[]=>[]
  | i,a :: t=>if a.K=2 then (i:Int) :: ats (i+1) t else ats (i+1) t
def aX (p:az):ax:=⟨p.Kind,(p.Args.length:Int),l7 p.Args,ats 0 p.Args⟩
theorem yD:∀ (l:List cO),(l7 l).length≤l.length
  | []=>by simp[l7]
  | a :: t=>by have:=yD t;unfold l7;split<;>simp<;>omega
theorem Fz:∀ (l:List cO) (i:Nat),(ats i l).length≤l.length
  | [],_=>by simp[ats]
  | a :: t,i=>by have:=Fz t (i+1);unfold ats;split<;>simp<;>omega
theorem Jf {N:Nat} (c:1099000000000≤N) (p:az) (d:p.Args.length≤1048576):ou N p=some (aX p):=by
  have lp:∀ (n i:Nat) (cs:List bP) (as:List Int),i≤p.Args.length→p.Args.length - i < n→cs.length≤i→as.length≤i →
      gy N p n cs as i=some ⟨p.Kind,(p.Args.length:Int),cs++l7 (p.Args.drop i),as++ats i (p.Args.drop i)⟩:=by
    intro n
    induction n with
    | zero=>intro i _ _ _ h;omega
    | succ n a=>
      intro i cs as e f h1 g
      by_cases b:i < p.Args.length
      · have c1:decide ((i:Int) < (p.Args.length:Int))=true:=decide_eq_true OV
        rw[hy b]
        simp only[gy,c1,if_true,ag b,fI,wr1 i OV,l7,ats]
        by_cases hk:p.Args[i].K=2
        · simp only[hk,decide_true,if_true,bV (show cs.length+[p.Args[i].V].length≤4294967296 by simp;omega),bV (show as.length+[(i:Int)].length≤4294967296 by simp;omega),fI]
          rw[a (i+1) _ _ OV OV (by simp;omega) (by simp;omega)];simp
        · simp only[hk,decide_false,gb,if_false]
          exact a (i+1) _ _ OV OV OV OV
      · have c1:decide ((i:Int) < (p.Args.length:Int))=false:=decide_eq_false OV
        rw[hB OV]
        simp only[gy,c1,gb,if_false,l7,ats,ix]
  have:=lp N 0 [] [] OV OV OW OW
  unfold ou aX
  simpa using this
theorem MS (x y:bP):bS x y=decide (x=y):=iG x y
def lC (a:ax):Prop:=a.Consts.length≤1048576∧a.At.length≤1048576
theorem BU {N:Nat} (d:1099000000000≤N) (x y:List Int) (f:x.length≤4294967296):cz N x y=some (decide (x=y)):=by
  unfold cz
  by_cases c:x.length=y.length
  · rw[if_neg (by simp;omega)]
    refine (rj (d7 N x y) x y c OV (fun a b=>some (decide (a=b))) (fun a _ b _=>rfl) (fun k i=>rfl) N 0 OV OV).trans ?_
    simp
  · rw[if_pos (by simp;omega)]
    have : ¬ x=y:=fun e=>c (by rw[e])
    simp[this]
theorem LO {N:Nat} (d:1099000000000≤N) (x y:List bP) (f:x.length≤4294967296):cJ N x y=some (decide (x=y)):=by
  unfold cJ
  by_cases c:x.length=y.length
  · rw[if_neg (by simp;omega)]
    refine (rj (bD N x y) x y c OV (fun a b=>some (decide (a=b))) (fun a _ b _=>rfl) (fun k i=>by simp only[bD,MS,fI]) N 0 OV OV).trans ?_
    simp
  · rw[if_pos (by simp;omega)]
    have : ¬ x=y:=fun e=>c (by rw[e])
    simp[this]
theorem FO {N:Nat} (i:1099000000000≤N) (x y:ax) (h:lC x):eP N x y=some (decide (x=y)):=by
  unfold eP
  simp only[BU i _ _ (show x.At.length≤4294967296 by have:=h.2;omega),LO i _ _ (show x.Consts.length≤4294967296 by have:=h.1;omega),fI,t8,lK]
  obtain⟨a,b,c,d⟩:=x;obtain⟨e,f,g,k⟩:=y
  simp only[ax.mk.injEq,← sY,and_assoc]
def co (as:List ax) (a:ax):Int × List ax:=match as.findIdx? (fun x=>decide (x=a)) with | some j=>((j:Int),as) | none=>((as.length:Int),as++[a])
def cq:List ax→List Int→List Int→List az→List ax × List Int × List Int
  | as,p,n,[]=>(as,p,n)
  | as,p,n,x :: t=>if x.Not then cq (co as (aX x)).2 p (n++[(co as (aX x)).1]) t else cq (co as (aX x)).2 (p++[(co as (aX x)).1]) n t
def ff:List ax→List aG→List ah→bH
  | as,cs,[]=>⟨as,cs⟩
  | as,cs,r :: t=>ff (cq as [] [] r.Pats).1 (cs++[⟨(cq as [] [] r.Pats).2.1,(cq as [] [] r.Pats).2.2⟩]) t
def bB (d:bf):bH:=ff [] [] d.Rules
theorem vp {p:az} (h:p.Args.length≤1048576):lC (aX p):=by
  have h1:=yD p.Args
  have a:=Fz p.Args 0
  exact⟨by show (l7 p.Args).length≤_;omega,by show (ats 0 p.Args).length≤_;omega⟩
theorem qH (as:List ax) (a:ax):(co as a).2.length≤as.length+1∧as.length≤(co as a).2.length:=by
  unfold co
  split<;>simp
theorem tu {P:ax→Prop} {as:List ax} {a:ax} (h:∀ x∈as,P x) (b:P a):∀ x∈(co as a).2,P x:=by
  unfold co
  split
  · exact h
  · intro x c
    rcases gf.1 c with h1 | h1
    · exact h x h1
    · simp at h1;rw[h1];exact b
theorem tf {P:ax→Prop}:∀ (t:List az) (as:List ax) (p n:List Int),(∀ x∈as,P x)→(∀ x∈t,P (aX x))→∀ x∈(cq as p n t).1,P x
  | [],as,p,n,h,_=>h
  | x :: t,as,p,n,h,a=>by
    unfold cq
    have:=tu h (a x OW)
    split
    · exact tf t _ _ _ this fun y b=>a y (by simp[b])
    · exact tf t _ _ _ this fun y b=>a y (by simp[b])
theorem tp:∀ (t:List az) (as:List ax) (p n:List Int),(cq as p n t).1.length≤as.length+t.length∧(cq as p n t).2.1.length+(cq as p n t).2.2.length=p.length+n.length+t.length
  | [],as,p,n=>by simp[cq]
  | x :: t,as,p,n=>by
    have h1:=(qH as (aX x)).1
    unfold cq
    split
    · have:=tp t (co as (aX x)).2 p (n++[(co as (aX x)).1])
      simp only[gk,gj,gm] at this ⊢
      omega
    · have:=tp t (co as (aX x)).2 (p++[(co as (aX x)).1]) n
      simp only[gk,gj,gm] at this ⊢
      omega
def oG (l:List ah):Nat:=(l.map fun r=>r.Pats.length).sum
theorem nE (r:ah) (t:List ah):oG (r :: t)=r.Pats.length+oG t:=by simp[oG]
def yS (a:List ah):Prop:=a.length≤1048576∧oG a≤1048576∧∀ r∈a,∀ p∈r.Pats,p.Args.length≤1048576
theorem Cm {B:Nat}:∀ {l:List ah},(∀ r∈l,r.Pats.length≤B)→oG l≤l.length*B
  | [],_=>by simp[oG]
  | p :: t,h=>by
    have h1:=Cm (l:=t) fun q a=>h q (by simp[a])
    have b:=h p OW
    rw[nE,gj,hE];omega
theorem wu {c:Nat}:∀ (l:List az) (i:Nat),iL c i l=true→∀ p∈l,uK p=true
  | [],_,_,p,hp=>by cases hp
  | x :: t,i,h,p,hp=>by
    unfold iL at h
    simp only[ha] at h
    rcases hV.1 hp with rfl | hp
    · exact h.1
    · exact wu t _ h.2.2 p hp
theorem jh {d:bf} (b:iq d=true):yS d.Rules:=by
  have h1:d.Rules.length≤12:=by
    unfold iq at b
    simp only[ha,decide_eq_true_eq] at b
    exact b.2.1.2
  have c:∀ r∈d.Rules,iy r.Pats=true:=fun r a=>by
    have:=kX b r a
    unfold ja at this
    simp only[ha] at this
    exact this.2.2.1
  have f:∀ r∈d.Rules,r.Pats.length≤6:=fun r a=>by
    have:=c r a
    unfold iy at this
    simp only[ha,decide_eq_true_eq] at this
    exact this.1.2
  have g:=Cm f
  refine⟨OV,OV,fun r a p hp=>?_⟩
  have:=c r a
  unfold iy at this
  simp only[ha,decide_eq_true_eq] at this
  have e:=wu _ _ this.2.2 p hp
  unfold uK at e
  simp only[ha,decide_eq_true_eq] at e
  omega
theorem zF:∀ (l:List az),(l.filter fun x=>!x.Not).length+(l.filter fun x=>x.Not).length=l.length
  | []=>rfl
  | p :: t=>by
    have:=zF t
    simp only[j8]
    cases p.Not<;>simp<;>omega
theorem qh:∀ (l:List az),(l.filter fun x=>!x.Not).length=ao l
  | []=>rfl
  | p :: t=>by
    have:=qh t
    simp only[j8,ao]
    cases p.Not<;>simp[this]
theorem uC {c:Nat}:∀ (l:List az) (i:Nat),iL c i l=true→l.filter (fun x=>!x.Not)=l.take (c - i)
  | [],i,_=>by simp
  | p :: t,i,h=>by
    unfold iL at h
    simp only[ha,beq_iff_eq] at h
    have h1:=h.2.1
    have a:=uC t (i+1) h.2.2
    by_cases d:c≤i
    · rw[decide_eq_true d] at h1
      have e:c - i=0:=by omega
      have b:c - (i+1)=0:=by omega
      rw[e,List.take_zero,j8,h1]
      rw[b,List.take_zero] at a
      simpa using a
    · rw[decide_eq_false d] at h1
      obtain⟨k,hk⟩:∃ k,c - i=k+1:=⟨c - i - 1,OV⟩
      have b:c - (i+1)=k:=by omega
      rw[hk,List.take_succ_cons,j8,h1,← b,← a]
      simp
theorem tY {l:List az} (h:iy l=true):l.filter (fun x=>!x.Not)=l.take (ao l):=by
  unfold iy at h
  simp only[ha] at h
  have:=uC l 0 h.2.2
  simpa using this
def Hs (n:bH):Prop:=(n.Alphas.length≤1048576∧∀ a∈n.Alphas,lC a)∧n.Chains.length≤1048576∧∀ c∈n.Chains,c.Pos.length≤1048576∧c.Neg.length≤1048576
theorem Dk {as:List ax} {a:ax} (c:as.length≤4611686018427387900):idx (co as a).2 (co as a).1=some a:=by
  unfold co
  split
  · rename_i j h
    rw[si] at h
    obtain⟨b,h1,_⟩:=h
    simp only[ag b]
    simpa using h1
  · simp only
    rw[ag OW]
    simp
theorem Ke {α:Type} {xs ys:List α} {i:Int} {a:α} (h:idx xs i=some a):idx (xs++ys) i=some a:=by
  obtain⟨b,h1,e⟩:=a8 h
  unfold idx
  rw[if_pos b,nt OV]
  exact e
theorem Ce (as:List ax) (a:ax):∃ u,(co as a).2=as++u:=by
  unfold co
  split
  · exact⟨[],OW⟩
  · exact⟨[a],rfl⟩
theorem zS {as:List ax} {a:ax} (h:as.Nodup):(co as a).2.Nodup:=by
  unfold co
  split
  · exact h
  · rename_i b
    rw[F0] at b
    refine List.nodup_append.2 ⟨h,OW,?_⟩
    intro x d y c e
    simp at c;subst c;subst e
    have:=b x d
    simp at this
def At (A:List ax):List Int→List az→Prop
  | [],[]=>True
  | i :: l,p :: t=>idx A i=some (aX p)∧At A l t
  | _,_=>False
theorem At.ext {A u:List ax}:∀ {l:List Int} {t:List az},At A l t→At (A++u) l t
  | [],[],_=>trivial
  | i :: l,p :: t,h=>⟨Ke h.1,h.2.ext⟩
theorem At.snoc {A:List ax} {i:Int} {p:az} (a:idx A i=some (aX p)):∀ {l:List Int} {t:List az},At A l t→At A (l++[i]) (t++[p])
  | [],[],_=>⟨a,trivial⟩
  | i :: l,p :: t,h=>⟨h.1,h.2.snoc a⟩
theorem At.len {A:List ax}:∀ {l:List Int} {t:List az},At A l t→l.length=t.length
  | [],[],_=>rfl
  | i :: l,p :: t,h=>by simp[h.2.len]
theorem At.get {A:List ax}:∀ {l:List Int} {t:List az},At A l t→∀ (k:Nat) (h1:k < l.length) (a:k < t.length),idx A l[k]=some (aX t[k])
  | [],[],_,k,h1,_=>by simp at h1
  | i :: l,p :: t,h,0,_,_=>h.1
  | i :: l,p :: t,h,k+1,h1,a=>h.2.get k (by simpa using h1) (by simpa using a)
theorem vo:∀ (t:List az) (as:List ax) (p n:List Int) (pp b:List az),as.length+t.length≤4194304→as.Nodup→At as p pp→At as n b →
    (∃ u,(cq as p n t).1=as++u)∧(cq as p n t).1.Nodup∧At (cq as p n t).1 (cq as p n t).2.1 (pp++t.filter fun x=>!x.Not)∧At (cq as p n t).1 (cq as p n t).2.2 (b++t.filter fun x=>x.Not)
  | [],as,p,n,pp,b,_,c,h1,d=>⟨⟨[],by simp[cq]⟩,c,by simpa[cq] using h1,by simpa[cq] using d⟩
  | x :: t,as,p,n,pp,b,k,c,h1,d=>by
    simp only[gj] at k
    obtain⟨u,hu⟩:=Ce as (aX x)
    have l:=(qH as (aX x)).1
    have f:=Dk (as:=as) (a:=aX x) OV
    have g:=zS (a:=aX x) c
    have h:At (co as (aX x)).2 p pp:=by rw[hu];exact h1.ext
    have i:At (co as (aX x)).2 n b:=by rw[hu];exact d.ext
    unfold cq
    cases j:x.Not with
    | true=>
      simp only[if_true,j8,j,hI,gb,if_false]
      obtain⟨⟨w,e⟩,g1,g2,g3⟩:=vo t _ p (n++[(co as (aX x)).1]) pp (b++[x]) OV g h (i.snoc f)
      exact⟨⟨u++w,by rw[e,hu,gi]⟩,g1,g2,by simpa using g3⟩
    | false=>
      simp only[gb,if_false,j8,j,hW,if_true]
      obtain⟨⟨w,e⟩,g1,g2,g3⟩:=vo t _ (p++[(co as (aX x)).1]) n (pp++[x]) b OV g (h.snoc f) i
      exact⟨⟨u++w,by rw[e,hu,gi]⟩,g1,by simpa using g2,g3⟩
def Ats (A:List ax):List aG→List ah→Prop
  | [],[]=>True
  | c :: l,r :: t=>(At A c.Pos (r.Pats.filter fun x=>!x.Not)∧At A c.Neg (r.Pats.filter fun x=>x.Not))∧Ats A l t
  | _,_=>False
theorem Ats.ext {A u:List ax}:∀ {l:List aG} {t:List ah},Ats A l t→Ats (A++u) l t
  | [],[],_=>trivial
  | i :: l,p :: t,h=>⟨⟨h.1.1.ext,h.1.2.ext⟩,h.2.ext⟩
theorem Ats.snoc {A:List ax} {c:aG} {r:ah} (a:At A c.Pos (r.Pats.filter fun x=>!x.Not)∧At A c.Neg (r.Pats.filter fun x=>x.Not)):∀ {l:List aG} {t:List ah},Ats A l t→Ats A (l++[c]) (t++[r])
  | [],[],_=>⟨a,trivial⟩
  | i :: l,p :: t,h=>⟨h.1,h.2.snoc a⟩
theorem Ats.len {A:List ax}:∀ {l:List aG} {t:List ah},Ats A l t→l.length=t.length
  | [],[],_=>rfl
  | i :: l,p :: t,h=>by simp[h.2.len]
theorem Ats.get {A:List ax}:∀ {l:List aG} {t:List ah},Ats A l t→∀ (k:Nat) (h1:k < l.length) (a:k < t.length),At A l[k].Pos (t[k].Pats.filter fun x=>!x.Not)∧At A l[k].Neg (t[k].Pats.filter fun x=>x.Not)
  | [],[],_,k,h1,_=>by simp at h1
  | i :: l,p :: t,h,0,_,_=>h.1
  | i :: l,p :: t,h,k+1,h1,a=>h.2.get k (by simpa using h1) (by simpa using a)
theorem xL:∀ (t:List ah) (as:List ax) (cs:List aG) (a:List ah),as.length+oG t≤4194304→as.Nodup→Ats as cs a →
    (ff as cs t).Alphas.Nodup∧Ats (ff as cs t).Alphas (ff as cs t).Chains (a++t)∧(ff as cs t).Alphas.length≤as.length+oG t
  | [],as,cs,a,_,b,h=>⟨b,by simpa[ff] using h,by simp[ff,oG]⟩
  | r :: t,as,cs,a,c,b,h=>by
    rw[nE] at c
    obtain⟨⟨u,e⟩,g1,g2,g3⟩:=vo r.Pats as [] [] [] [] OV b trivial trivial
    have d:=(tp r.Pats as [] []).1
    have:=xL t (cq as [] [] r.Pats).1 (cs++[⟨(cq as [] [] r.Pats).2.1,(cq as [] [] r.Pats).2.2⟩]) (a++[r]) OV g1 (Ats.snoc ⟨by simpa using g2,by simpa using g3⟩ (by rw[e];exact h.ext))
    unfold ff
    rw[nE]
    refine⟨this.1,by simpa using this.2.1,by have:=this.2.2;omega⟩
theorem oH {d:bf} (h:yS d.Rules):(bB d).Alphas.Nodup∧Ats (bB d).Alphas (bB d).Chains d.Rules∧(bB d).Alphas.length≤oG d.Rules:=by
  have a:=h.2.1
  have:=xL d.Rules [] [] [] (by simp;omega) OW trivial
  unfold bB
  refine⟨this.1,by simpa using this.2.1,by simpa using this.2.2⟩
theorem KD {A:List ax} {l:List aG} {t:List ah} (h:Ats A l t):∀ c∈l,∃ r∈t,c.Pos.length+c.Neg.length=r.Pats.length:=by
  intro c b
  obtain⟨k,hk,rfl⟩:=List.getElem_of_mem b
  have a:k < t.length:=by rw[← h.len];exact hk
  have:=h.get k hk a
  exact⟨_,hK a,by rw[this.1.len,this.2.len,zF]⟩
theorem vM {P:ax→Prop}:∀ (t:List ah) (as:List ax) (cs:List aG),(∀ x∈as,P x)→(∀ r∈t,∀ p∈r.Pats,P (aX p))→∀ x∈(ff as cs t).Alphas,P x
  | [],as,cs,h,_=>h
  | r :: t,as,cs,h,a=>by
    unfold ff
    exact vM t _ _ (tf r.Pats as [] [] h (a r OW)) fun q b=>a q (by simp[b])
theorem B3:∀ {l:List ah} {r:ah},r∈l→r.Pats.length≤oG l
  | x :: t,r,h=>by
    rw[nE]
    rcases hV.1 h with rfl | h
    · omega
    · have:=B3 h;omega
theorem rA {d:bf} (h:yS d.Rules):Hs (bB d):=by
  obtain⟨h1,b,j⟩:=oH h
  obtain⟨f,k,g⟩:=h
  refine⟨⟨OV,vM d.Rules [] [] OW fun r a p hp=>vp (g r a p hp)⟩,by rw[b.len];exact f,fun c i=>?_⟩
  obtain⟨r,a,e⟩:=KD b c i
  have:=B3 a
  omega
theorem GM {N:Nat} (c:1099000000000≤N) (as:List ax) (cs:List aG) (p:az) (hp:p.Args.length≤1048576) (f:as.length≤4194304) (h:∀ a∈as,lC a) :
    jT N ⟨as,cs⟩ p=some ((co as (aX p)).1,⟨(co as (aX p)).2,cs⟩):=by
  unfold jT
  rw[Jf c p hp,fI]
  have lp:∀ (n i:Nat),i≤as.length→as.length - i < n→dJ N ⟨as,cs⟩ (aX p) n i =
      some (match (as.drop i).findIdx? (fun x=>decide (x=aX p)) with | some j=>((i+j:Nat):Int) | none=>(as.length:Int),⟨match (as.drop i).findIdx? (fun x=>decide (x=aX p)) with | some j=>as | none=>as++[aX p],cs⟩):=by
    intro n
    induction n with
    | zero=>intro i _ h;omega
    | succ n d=>
      intro i g k
      by_cases b:i < as.length
      · have c1:decide ((i:Int) < (as.length:Int))=true:=decide_eq_true OV
        rw[hy b,List.findIdx?_cons]
        simp only[dJ,c1,if_true,ag b,fI,FO c _ _ (h _ (hK b)),wr1 i OV,d (i+1) OV OV]
        by_cases he:as[i]=aX p
        · simp[he]
        · simp only[he,decide_false,gb,if_false]
          cases (as.drop (i+1)).findIdx? (fun x=>decide (x=aX p)) with
          | none=>rfl
          | some j=>simp only[D0];rw[show i+(j+1)=i+1+j by omega]
      · have c1:decide ((i:Int) < (as.length:Int))=false:=decide_eq_false OV
        rw[hB OV]
        simp only[dJ,c1,gb,if_false,bV (show as.length+[aX p].length≤4294967296 by simp;omega),fI,List.findIdx?_nil]
        have e:IntKind.i64.wrap (((as++[aX p]).length:Int) - 1)=(as.length:Int):=by
          rw[wr (by simp only[gk,gj,gm];omega) (by simp only[gk,gj,gm];omega)];simp only[gk,gj,gm];omega
        rw[e]
  have:=lp N 0 OV OV
  rw[show ((0:Nat):Int)=0 from rfl,hY] at this
  rw[this]
  unfold co
  cases as.findIdx? (fun x=>decide (x=aX p))<;>simp
theorem FX {N:Nat} (c:1099000000000≤N) (d:bf) (h:yS d.Rules):pm N d=some (bB d):=by
  obtain⟨h1,v,w⟩:=h
  unfold pm bB
  refine lp' c d.Rules OV (fun n (s:List ax × List aG) i=>fP N d n s.1 s.2 i) (fun t s=>some (ff s.1 s.2 t)) (fun s t=>s.1.length+oG t≤1048576∧s.2.length+t.length≤1048576∧∀ a∈s.1,lC a) ([],[]) ⟨by simpa using v,by simpa using h1,OW⟩ (fun n s i r t g1 g2 g3 g4 g5 g6 g x=>?_) (fun n s i g1 g2 g=>?_)
  · obtain⟨y,i2,i3⟩:=g
    rw[nE] at y
    simp only[gj] at i2
    simp only[fP,g5,if_true,g4,fI,ff]
    have key:∀ (as:List ax),as.length+r.Pats.length+oG t≤1048576→(∀ a∈as,lC a)→gU N s.2 (i:Int) (fP N d n) r N as [] [] 0=some (ff (cq as [] [] r.Pats).1 (s.2++[⟨(cq as [] [] r.Pats).2.1,(cq as [] [] r.Pats).2.2⟩]) t):=by
      intro as z A
      refine lp' c r.Pats OV (fun m (u:List ax × List Int × List Int) k=>gU N s.2 (i:Int) (fP N d n) r m u.1 u.2.1 u.2.2 k) (fun l u=>some (ff (cq u.1 u.2.2 u.2.1 l).1 (s.2++[⟨(cq u.1 u.2.2 u.2.1 l).2.1,(cq u.1 u.2.2 u.2.1 l).2.2⟩]) t))
        (fun u l=>u.1.length+l.length+oG t≤1048576∧u.2.1.length+u.2.2.length+l.length≤1048576∧∀ a∈u.1,lC a) (as,[],[]) ⟨z,by simp;omega,A⟩ (fun m u k p l f1 f2 f3 f4 f5 f6 e j=>?_) (fun m u k f1 f2 e=>?_)
      · obtain⟨f,o,b⟩:=e
        simp only[gj] at f o
        have hp:=w r g2 p f2
        have B:=(qH u.1 (aX p)).1
        have q:=tu b (vp hp)
        simp only[gU,f5,if_true,f4,fI,GM c u.1 s.2 p hp OV b,f6,cq]
        cases C:p.Not with
        | true=>
          simp only[if_true,bV (show u.2.1.length+[(co u.1 (aX p)).1].length≤4294967296 by simp;omega),fI]
          exact j ((co u.1 (aX p)).2,u.2.1++[(co u.1 (aX p)).1],u.2.2) ⟨by simp only;omega,by simp;omega,q⟩
        | false=>
          simp only[gb,if_false,bV (show u.2.2.length+[(co u.1 (aX p)).1].length≤4294967296 by simp;omega),fI]
          exact j ((co u.1 (aX p)).2,u.2.1,u.2.2++[(co u.1 (aX p)).1]) ⟨by simp only;omega,by simp;omega,q⟩
      · obtain⟨f,o,b⟩:=e
        simp only[gU,f2,gb,if_false,bV (show s.2.length+[(⟨u.2.2,u.2.1⟩:aG)].length≤4294967296 by simp;omega),fI,g6,cq]
        exact x (u.1,s.2++[⟨u.2.2,u.2.1⟩]) ⟨by simp only[gm] at f ⊢;omega,by simp;omega,b⟩
    exact key s.1 OV i3
  · simp only[fP,g2,gb,if_false];rfl
theorem Gv {N:Nat} (e:1099000000000≤N) (x y:aG) (h1:x.Pos.length≤1048576) (f:x.Neg.length≤1048576):fQ N x y=some (decide (x=y)):=by
  unfold fQ
  simp only[BU e _ _ (show x.Pos.length≤4294967296 by omega),BU e _ _ (show x.Neg.length≤4294967296 by omega),fI,t8]
  obtain⟨a,b⟩:=x;obtain⟨c,d⟩:=y
  simp only[aG.mk.injEq,sY]
theorem DN {N:Nat} (d:1099000000000≤N) (x y:List ax) (g:x.length≤1048576) (h:∀ a∈x,lC a):bl N x y (eP N)=some (decide (x=y)):=by
  unfold bl
  by_cases c:x.length=y.length
  · rw[if_neg (by simp;omega)]
    refine (rj (aV N x y (eP N)) x y c OV (eP N) (fun a f b _=>FO d a b (h a f)) (fun k i=>rfl) N 0 OV OV).trans ?_
    simp
  · rw[if_pos (by simp;omega)]
    have : ¬ x=y:=fun e=>c (by rw[e])
    simp[this]
theorem DA {N:Nat} (f:1099000000000≤N) (x y:List aG) (g:x.length≤1048576) (h:∀ c∈x,c.Pos.length≤1048576∧c.Neg.length≤1048576):bh N x y (fQ N)=some (decide (x=y)):=by
  unfold bh
  by_cases c:x.length=y.length
  · rw[if_neg (by simp;omega)]
    refine (rj (aU N x y (fQ N)) x y c OV (fQ N) (fun a d b _=>Gv f a b (h a d).1 (h a d).2) (fun k i=>rfl) N 0 OV OV).trans ?_
    simp
  · rw[if_pos (by simp;omega)]
    have : ¬ x=y:=fun e=>c (by rw[e])
    simp[this]
theorem JD {N:Nat} (c:1099000000000≤N) (n:bH) (d:bf) (f:pA d) (e:Hs n):rG N n d=some (iq d && decide (n=bB d)):=by
  unfold rG
  rw[IJ c d f,fI]
  cases g:iq d with
  | false=>simp
  | true=>
    simp only[hI,gb,if_false,FX c d (jh g),fI,DN c _ _ e.1.1 e.1.2,DA c _ _ e.2.1 e.2.2,t8,hZ]
    cases h:bB d with
    | mk a b=>cases n with | mk x y=>simp only[bH.mk.injEq,sY]
def rO (c:aG):aH:=⟨List.replicate c.Pos.length ⟨[]⟩⟩
def lM (p:bH):aJ:=⟨List.replicate p.Alphas.length ⟨[]⟩,p.Chains.map rO⟩
theorem Hm {N:Nat} (b:1099000000000≤N) (p:bH) (f:p.Alphas.length≤1048576) (d:p.Chains.length≤1048576) (hp:∀ c∈p.Chains,c.Pos.length≤1048576):pM N p=some (lM p):=by
  unfold pM lM
  rw[Eg _ OV,fI]
  refine (lp' b p.Chains OV (fun n (u:List aH) i=>iZ N p (List.replicate p.Alphas.length ⟨[]⟩) n u i) (fun t u=>some ⟨List.replicate p.Alphas.length ⟨[]⟩,u++t.map rO⟩) (fun u t=>u.length+t.length≤1048576) [] (by simpa using d) (fun n u i c t g1 g2 g3 g4 g5 g6 a e=>?_) (fun n u i g1 g2 a=>?_)).trans OW
  · simp only[gj] at a
    have hm:=hp c g2
    simp only[iZ,g5,if_true,g4,fI,Eg _ (show c.Pos.length≤4294967296 by omega),bV (show u.length+[(⟨List.replicate c.Pos.length ⟨[]⟩⟩:aH)].length≤4294967296 by simp;omega),g6]
    rw[e _ (by simp;omega)];simp[rO]
  · simp only[iZ,g2,gb,if_false];simp
def kD (a:List bP):List Int→List bP→Bool
  | [],_=>true
  | _ :: _,[]=>false
  | x :: t,c :: cs=>(decide (0≤x) && (decide (x < (a.length:Int)) && decide (idx a x=some c))) && kD a t cs
def dK (a:ax) (f:aL):Bool:=(seq f.Kind a.Kind && decide ((f.Fields.length:Int)=a.N)) && kD f.Fields a.At a.Consts
theorem HK {N:Nat} (o:1099000000000≤N) (a:ax) (f:aL) (h:a.At.length≤1048576):qk N a f=some (dK a f):=by
  have lp:∀ (n i:Nat),i≤a.At.length→a.At.length - i < n→iU N a f n i=some (kD f.Fields (a.At.drop i) (a.Consts.drop i)):=by
    intro n
    induction n with
    | zero=>intro i _ h;omega
    | succ n l=>
      intro i p q
      simp only[iU]
      by_cases c:i < a.At.length
      · have c1:decide ((i:Int) < (a.At.length:Int))=true:=decide_eq_true OV
        rw[hy c]
        simp only[c1,if_true,ag c,fI,wr1 i OV,l (i+1) OV OV]
        by_cases d:i < a.Consts.length
        · have c2:decide ((a.Consts.length:Int)≤(i:Int))=false:=decide_eq_false OV
          rw[hy d,kD]
          by_cases b:a.At[i] < 0
          · simp[b,c2,show ¬ 0≤a.At[i] by omega]
          · by_cases h1:(f.Fields.length:Int)≤a.At[i]
            · simp[b,h1,show ¬ a.At[i] < (f.Fields.length:Int) by omega]
            · obtain⟨j,e⟩:∃ j:Nat,a.At[i]=(j:Int):=⟨a.At[i].toNat,OV⟩
              have g:j < f.Fields.length:=by omega
              rw[e]
              rw[e] at b h1
              simp only[b,h1,c2,decide_false,gb,if_false,fI,ag g,ag d,iG,Option.some.injEq]
              by_cases he:f.Fields[j]=a.Consts[i]<;>simp[he,g]
        · have c2:decide ((a.Consts.length:Int)≤(i:Int))=true:=decide_eq_true OV
          rw[hB (show a.Consts.length≤i by omega),kD]
          by_cases b:a.At[i] < 0
          · simp[b,c2]
          · by_cases h1:(f.Fields.length:Int)≤a.At[i]<;>simp[b,h1,show a.Consts.length≤i by omega]
      · have c1:decide ((i:Int) < (a.At.length:Int))=false:=decide_eq_false OV
        rw[hB (show a.At.length≤i by omega)]
        simp only[c1,gb,if_false,kD]
  have k:=lp N 0 OV OV
  rw[hY,hY,show ((0:Nat):Int)=0 from rfl] at k
  unfold qk dK
  rw[k]
  cases seq f.Kind a.Kind<;>by_cases m:(f.Fields.length:Int)=a.N<;>simp[m]
def neg (l:List az):List az:=l.filter fun p=>p.Not
def okB (xs:List ak) (ps:List az) (r:List Int):List aw × Bool:=be xs (ps.take r.length) r []
def eT (xs:List ak) (ns:List az) (l:List aw):List Int:=ns.map fun p=>(ta p l xs:Int)
def oF (xs:List ak) (ps ns:List az) (row:List Int) (id:Int):List an:=
  if (okB xs ps (row++[id])).2=true then [⟨row++[id],if row.length+1=ps.length then eT xs ns (okB xs ps (row++[id])).1 else []⟩] else []
def gL (xs:List ak) (ps ns:List az) (row ids:List Int):List an:=ids.flatMap (oF xs ps ns row)
def jp (xs:List ak) (ps ns:List az) (id:Int) (k:Nat) (B F:List an) (A:List Int):List an:=
  if k=0 then gL xs ps ns [] [id] else B.flatMap (fun t=>gL xs ps ns t.Ids [id])++F.flatMap (fun t=>gL xs ps ns t.Ids A)
def lS (xs:List ak) (ps ns:List az) (id:Int) (A:Nat→List Int):Nat→List ar→List an→List an→List ar
  | _,[],_,_=>[]
  | k,L :: Ls,B,F=>⟨L.Toks++jp xs ps ns id k B F (A k)⟩ :: lS xs ps ns id A (k+1) Ls L.Toks (jp xs ps ns id k B F (A k))
def kC (f:aL) (l:List aw) (a:Int):List az→List Int→List Int
  | p :: ns,x :: h=>(if (bz p f l).2=true then IntKind.i64.wrap (x+a) else x) :: kC f l a ns h
  | _,h=>h
def jS (xs:List ak) (ps ns:List az) (f:aL) (a:Int) (b:List an):List an:=
  b.map fun t=>if (okB xs ps t.Ids).2=true then ⟨t.Ids,kC f (okB xs ps t.Ids).1 a ns t.Hits⟩ else t
def qG (as:List bk) (c:aG) (k:Nat):List Int:=match c.Pos[k]? with
  | some a=>(match idx as a with
    | some i=>i.L
    | none=>[])
  | none=>[]
def cZ (xs:List ak) (ps ns:List az) (f:aL) (a:Int) (row:aH):aH:=match row.Levels[row.Levels.length - 1]? with
  | some L=>⟨row.Levels.set (row.Levels.length - 1) ⟨jS xs ps ns f a L.Toks⟩⟩
  | none=>row
def nw (xs:List ak) (as:List bk) (f:aL) (id:Int) (r:ah) (c:aG) (row:aH):aH:=
  ⟨lS xs (pos r.Pats) (neg r.Pats) id (qG as c) 0 (cZ xs (pos r.Pats) (neg r.Pats) f 1 row).Levels [] []⟩
def oL (g:ah→aG→aH→aH):List ah→List aG→List aH→List aH
  | r :: a,c :: cs,w :: ws=>g r c w :: oL g a cs ws
  | _,_,ws=>ws
def cS (f:aL) (id:Int):List ax→List bk→List bk
  | a :: as,i :: is=>(if dK a f=true then ⟨i.L++[id]⟩ else i) :: cS f id as is
  | _,is=>is
def xf (d:bf) (n:bH) (m:aJ) (s:ae) (id:Int):aJ:=
  ⟨cS (aF s.Items id).1 id n.Alphas m.Alphas,oL (nw s.Items (cS (aF s.Items id).1 id n.Alphas m.Alphas) (aF s.Items id).1 id) d.Rules n.Chains m.Rules⟩
theorem rW (xs:List ak) (ps ns:List az) (row:List Int):∀ (ids:List Int),(gL xs ps ns row ids).length≤ids.length
  | []=>by simp[gL]
  | v :: ids=>by
    have h1:=rW xs ps ns row ids
    unfold gL at h1 ⊢
    rw[n0,gk,gj]
    have a:(oF xs ps ns row v).length≤1:=by unfold oF;split<;>simp
    omega
theorem sg (xs:List ak) (ps ns:List az) (ids:List Int):∀ (B:List an),(B.flatMap fun t=>gL xs ps ns t.Ids ids).length≤B.length*ids.length
  | []=>by simp
  | t :: B=>by
    have h1:=sg xs ps ns ids B
    have a:=rW xs ps ns t.Ids ids
    rw[n0,gk,gj,hE];omega
theorem wZ {xs:List ak} {ps ns:List az} {row ids:List Int}:∀ t∈gL xs ps ns row ids,t.Ids.length=row.length+1∧t.Hits.length≤ns.length:=by
  intro t a
  unfold gL at a
  obtain⟨v,_,h⟩:=jf.1 a
  unfold oF at h
  split at h
  · simp only[List.mem_singleton] at h
    subst h
    refine⟨OW,?_⟩
    simp only
    split
    · simp[eT]
    · simp
  · cases h
theorem xc (f:aL) (l:List aw) (b:Int):∀ (ns:List az) (h:List Int),(kC f l b ns h).length=h.length
  | p :: ns,x :: h=>by simp[kC,xc f l b ns h]
  | [],h=>by simp[kC]
  | p :: ns,[]=>by simp[kC]
theorem rC {xs:List ak} {ps ns:List az} {f:aL} {b:Int} (a:List an):(jS xs ps ns f b a).map (·.Ids)=a.map (·.Ids):=by
  unfold jS
  rw[List.map_map]
  apply List.map_congr_left
  intro t _
  simp only[Function.comp]
  split<;>rfl
theorem xp {xs:List ak} {ps ns:List az} {f:aL} {b:Int} (a:List an):(jS xs ps ns f b a).length=a.length:=by simp[jS]
theorem sT (xs:List ak) (ps:List az) (ids:List Int):(okB xs ps ids).1.length≤dE ps:=by
  have h1:=uQ (xs:=xs) (ps.take ids.length) ids []
  have a:dE (ps.take ids.length)≤dE ps:=rX _ _
  unfold okB
  simp at h1
  omega
theorem zI {N:Nat} (b:1099000000000≤N) (s:ae) (v:Int) (k:s.Items.length≤1048576) (c:∀ x∈s.Items,x.F.Fields.length≤1048576):mb N s v=some (aF s.Items v):=by
  unfold mb
  refine lp0 b s.Items OV (i7 N s v) (fun t=>some (aF t v)) (fun n i x t h1 a l d f g j=>?_) (fun n i h1 a=>?_)
  · have e:kO N x.F=some x.F:=by
      unfold kO
      rw[gD (show x.F.Fields.length≤4294967296 by have:=c x a;omega)];rfl
    simp only[i7,f,if_true,d,fI,g,j,e,jG]
    by_cases h:x.Id=v<;>simp[h]
  · simp only[i7,a,gb,if_false];rfl
structure SzS (r:ah) (s:ae):Prop where
  pl:r.Pats.length≤1048576
  sa:dE r.Pats≤1048576
  pa:∀ p∈r.Pats,p.Args.length≤1048576
  sl:s.Items.length≤1048576
  fl:∀ x∈s.Items,x.F.Fields.length≤1048576
  fp:pos r.Pats=r.Pats.take (ao r.Pats)
theorem Bt {N:Nat} (c:1099000000000≤N) (r:ah) (s:ae) (a:SzS r s) (ids:List Int) (o:ids.length≤ao r.Pats) :
    ∃ l,jL N r s ids=some (l,(okB s.Items (pos r.Pats) ids).2)∧((okB s.Items (pos r.Pats) ids).2=true→l=(okB s.Items (pos r.Pats) ids).1)∧l.length≤1048576:=by
  have p:=eh r.Pats
  have t:=a.pl
  unfold jL
  have lp:∀ (n i:Nat) (l:List aw),i≤ids.length→ids.length - i < n→l.length+dE (r.Pats.drop i)≤1048576 →
      ∃ q,ft N r s ids n l i=some (q,(be s.Items ((r.Pats.take ids.length).drop i) (ids.drop i) l).2)∧((be s.Items ((r.Pats.take ids.length).drop i) (ids.drop i) l).2=true→q=(be s.Items ((r.Pats.take ids.length).drop i) (ids.drop i) l).1)∧q.length≤1048576:=by
    intro n
    induction n with
    | zero=>intro i _ _ h;omega
    | succ n j=>
      intro i l h1 u d
      by_cases f:i < ids.length
      · have c1:decide ((i:Int) < (ids.length:Int))=true:=decide_eq_true OV
        have b:i < r.Pats.length:=by omega
        have k:i < (r.Pats.take ids.length).length:=by rw[j4];omega
        rw[hy b] at d
        rw[eX] at d
        have v:=lB r.Pats[i] (aF s.Items ids[i]).1 l
        rw[hy f,hy k,be,List.getElem_take]
        simp only[ft,c1,if_true,ag f,fI,zI c s _ a.sl a.fl,m6,ag b]
        rw[show (⟨(aF s.Items ids[i]).1.Kind,(aF s.Items ids[i]).1.Fields⟩:aL)=(aF s.Items ids[i]).1 from rfl,EI c r.Pats[i] _ l (a.pa _ (hK b)) (show l.length≤2147483648 by omega)]
        simp only[fI,wr1 i OV]
        cases (aF s.Items ids[i]).2 with
        | false=>exact⟨l,OW,OW,OV⟩
        | true=>
          cases hm:(bz r.Pats[i] (aF s.Items ids[i]).1 l).2 with
          | false=>exact⟨l,OW,OW,OV⟩
          | true=>
            simp only[hI,gb,if_false,and_self,if_true,fI]
            exact j (i+1) _ OV OV OV
      · have c1:decide ((i:Int) < (ids.length:Int))=false:=decide_eq_false OV
        simp only[ft,c1,gb,if_false]
        rw[hB (show (r.Pats.take ids.length).length≤i by rw[j4];omega),hB (show ids.length≤i by omega)]
        exact⟨l,by simp[be],by simp[be],OV⟩
  obtain⟨q,h1,g,m⟩:=lp N 0 [] OV OV (by simpa using a.sa)
  have e:(pos r.Pats).take ids.length=r.Pats.take ids.length:=by rw[a.fp,List.take_take];congr 1;omega
  unfold okB
  rw[e]
  simp only[hY] at h1 g
  exact⟨q,h1,g,m⟩
def pD (ns:List az) (f:aL) (l:List aw):List Int:=ns.map fun p=>if (bz p f l).2=true then 1 else 0
theorem L5 {N:Nat} (b:1099000000000≤N) (r:ah) (f:aL) (l:List aw) (hp:r.Pats.length≤1048576) (pa:∀ p∈r.Pats,p.Args.length≤1048576) (e:l.length≤1048576):nK N r f l=some (pD (neg r.Pats) f l):=by
  unfold nK
  refine (lp' b r.Pats OV (fun n (u:List Int) i=>ej N r f l n u i) (fun t u=>some (u++pD (neg t) f l)) (fun u t=>u.length+t.length≤1048576) [] (by simpa using hp) (fun n u i p t g1 g2 g3 g4 g5 g6 c a=>?_) (fun n u i g1 g2 c=>?_)).trans OW
  · simp only[gj] at c
    have d:neg (p :: t)=if p.Not then p :: neg t else neg t:=by unfold neg;rw[j8]
    simp only[ej,g5,if_true,g4,fI,EI b p f l (pa p g2) (show l.length≤2147483648 by omega)]
    rw[d]
    cases g:p.Not with
    | false=>simp only[gb,if_false,g6];exact a u OV
    | true=>
      simp only[if_true]
      cases hm:(bz p f l).2 with
      | true=>
        simp only[if_true,j0,bV (show u.length+[(1:Int)].length≤4294967296 by simp;omega),fI,g6]
        rw[a _ (by simp;omega)];simp[pD,hm]
      | false=>
        simp only[gb,if_false,j0,bV (show u.length+[(0:Int)].length≤4294967296 by simp;omega),fI,g6]
        rw[a _ (by simp;omega)];simp[pD,hm]
  · simp only[ej,g2,gb,if_false];simp[neg,pD]
def lI (xs:List ak) (ps:List az) (row:List Int) (id:Int):List an:=if (okB xs ps (row++[id])).2=true then [⟨row++[id],[]⟩] else []
theorem Ee {N:Nat} (b:1099000000000≤N) (r:ah) (s:ae) (a:SzS r s) (out:List an) (row:List Int) (id:Int) (d:row.length+1≤ao r.Pats) (c:out.length+1≤4294967296) :
    kZ N out r s row id=some (out++lI s.Items (pos r.Pats) row id):=by
  have e:=eh r.Pats
  have f:=a.pl
  obtain⟨l,h1,g,h⟩:=Bt b r s a (row++[id]) (by simp;omega)
  unfold kZ lI
  simp only[gD (show row.length≤4294967296 by omega),fI,bV (show row.length+[id].length≤4294967296 by simp;omega),h1]
  cases (okB s.Items (pos r.Pats) (row++[id])).2 with
  | false=>simp
  | true=>simp[bV (show out.length+[(⟨row++[id],[]⟩:an)].length≤4294967296 by simpa using c)]
def Hb:List Int→List Int→List Int
  | x :: a,y :: b=>(x+y) :: Hb a b
  | a,_=>a
theorem GE (ns:List az) (l:List aw) (xs:List ak) (x:ak):Hb (eT xs ns l) (pD ns x.F l)=eT (xs++[x]) ns l:=by
  induction ns with
  | nil=>rfl
  | cons p ns a=>
    unfold eT pD at a ⊢
    simp only[List.map_cons,Hb,a]
    congr 1
    unfold ta
    rw[List.countP_append]
    cases hm:(bz p x.F l).2 with
    | true=>simp[hm]
    | false=>simp[hm]
theorem AD {N:Nat} (s2:Int) (K:List Int→Int→Option an) (e:List Int) (k:e.length≤1048576) (j:∀ y∈e,0≤y∧y≤1):∀ (b:List Int) (n:Nat) (c d a:List Int),b.length < n→e=c++b→d.length=c.length→a.length=b.length→(∀ x∈a,0≤x∧x≤1048576) →
    fv N s2 K e n (d++a) (c.length:Int)=K (d++Hb a b) (IntKind.i64.wrap (s2+1))
  | [],n,c,d,a,h,h1,f,g,i=>by
    obtain⟨n,rfl⟩:∃ m,n=m+1:=⟨n - 1,by simp at h;omega⟩
    have c1:decide ((c.length:Int) < (e.length:Int))=false:=decide_eq_false (by rw[h1];simp)
    have:a=[]:=List.length_eq_zero_iff.1 (by simpa using g)
    subst this
    simp only[fv,c1,gb,if_false,Hb]
  | y :: b,n,c,d,[],h,h1,f,g,i=>by simp at g
  | y :: b,n,c,d,x :: a,h,h1,f,g,i=>by
    obtain⟨n,rfl⟩:∃ m,n=m+1:=⟨n - 1,OV⟩
    simp only[gj] at h g
    have s:e.length=c.length+(b.length+1):=by rw[h1];simp
    have c1:decide ((c.length:Int) < (e.length:Int))=true:=decide_eq_true OV
    have l:idx e (c.length:Int)=some y:=by rw[h1,mR];simp
    have o:idx (d++x :: a) (c.length:Int)=some x:=by rw[← f,mR];simp
    have t:=i x OW
    have u:=j y (by rw[h1];simp)
    have p:IntKind.i64.wrap (x+y)=x+y:=wr OV OV
    have q:(d++x :: a).set ((c.length:Int)).toNat (x+y)=(d++[x+y])++a:=by
      rw[hQ,← f,sX _ _ (hA _),ti,OZ,gi];rfl
    simp only[fv,c1,if_true,l,o,fI,p,q,wr1 c.length OV]
    have:=AD (N:=N) s2 K e k j b n (c++[y]) (d++[x+y]) a OV (by rw[h1];simp) (by simp[f]) OV (fun z r=>i z (by simp[r]))
    simp only[gk,gj,gm,ho] at this
    rw[this,Hb]
    simp
theorem IL {N:Nat} (c:1099000000000≤N) (r:ah) (s:ae) (a:SzS r s) (t:an) (h:t.Ids.length≤ao r.Pats) (j:(okB s.Items (pos r.Pats) t.Ids).2=true) :
    mX N r s t=some ⟨t.Ids,eT s.Items (neg r.Pats) (okB s.Items (pos r.Pats) t.Ids).1⟩:=by
  have A:=eh r.Pats
  have B:=a.pl
  have C:=a.sl
  obtain⟨l,h1,e,k⟩:=Bt c r s a t.Ids h
  obtain rfl:=e j
  have D:=zF r.Pats
  have E:=qh r.Pats
  have o:(neg r.Pats).length=r.Pats.length - ao r.Pats:=by unfold neg;omega
  have q:IntKind.i64.wrap ((r.Pats.length:Int) - (ao r.Pats:Int))=((r.Pats.length - ao r.Pats:Nat):Int):=by
    rw[show ((r.Pats.length:Int) - (ao r.Pats:Int))=((r.Pats.length - ao r.Pats:Nat):Int) by omega]
    exact wr OV OV
  unfold mX
  rw[h1,fI,Fp c r a.pl,fI,q,Eg _ OV,fI]
  have u:List.replicate (r.Pats.length - ao r.Pats) (0:Int)=eT [] (neg r.Pats) (okB s.Items (pos r.Pats) t.Ids).1:=by
    rw[← o]
    unfold eT ta
    apply List.ext_getElem
    · simp
    · intro i h1 e;simp
  rw[u]
  have lp:∀ (zs:List ak) (n:Nat) (dz:List ak),zs.length < n→s.Items=dz++zs →
      dU N r s t ((okB s.Items (pos r.Pats) t.Ids).1,(okB s.Items (pos r.Pats) t.Ids).2) n (eT dz (neg r.Pats) (okB s.Items (pos r.Pats) t.Ids).1) (dz.length:Int)=some ⟨t.Ids,eT s.Items (neg r.Pats) (okB s.Items (pos r.Pats) t.Ids).1⟩:=by
    intro zs
    induction zs with
    | nil=>
      intro n dz d he
      obtain⟨n,rfl⟩:∃ m,n=m+1:=⟨n - 1,by simp at d;omega⟩
      have f:s.Items=dz:=by simpa using he
      have c1:decide ((dz.length:Int) < (s.Items.length:Int))=false:=decide_eq_false (by rw[f];simp)
      simp only[dU,c1,gb,if_false]
      rw[← f]
    | cons z zs v=>
      intro n dz d he
      obtain⟨n,rfl⟩:∃ m,n=m+1:=⟨n - 1,OV⟩
      simp only[gj] at d
      have F:s.Items.length=dz.length+(zs.length+1):=by rw[he];simp
      have c1:decide ((dz.length:Int) < (s.Items.length:Int))=true:=decide_eq_true OV
      have w:idx s.Items (dz.length:Int)=some z:=by rw[he,mR];simp
      simp only[dU,c1,if_true,w,fI,L5 c r z.F _ a.pl a.pa k]
      have g:=AD (N:=N) (dz.length:Int) (dU N r s t ((okB s.Items (pos r.Pats) t.Ids).1,(okB s.Items (pos r.Pats) t.Ids).2) n) (pD (neg r.Pats) z.F (okB s.Items (pos r.Pats) t.Ids).1) (by simp[pD];omega)
        (fun y b=>by unfold pD at b;obtain⟨p,_,rfl⟩:=hG.1 b;split<;>omega) (pD (neg r.Pats) z.F (okB s.Items (pos r.Pats) t.Ids).1) N [] [] (eT dz (neg r.Pats) (okB s.Items (pos r.Pats) t.Ids).1) (by simp[pD];omega) rfl rfl (by simp[pD,eT])
        (fun y b=>by unfold eT at b;obtain⟨p,_,rfl⟩:=hG.1 b;have:=vR p (okB s.Items (pos r.Pats) t.Ids).1 dz;omega)
      simp only[hz,gm,l4] at g
      have x:fv N (dz.length:Int) (dU N r s t ((okB s.Items (pos r.Pats) t.Ids).1,(okB s.Items (pos r.Pats) t.Ids).2) n) (pD (neg r.Pats) z.F (okB s.Items (pos r.Pats) t.Ids).1) N (eT dz (neg r.Pats) (okB s.Items (pos r.Pats) t.Ids).1) 0=_:=g
      rw[x,GE,wr1 dz.length OV]
      have:=v n (dz++[z]) OV (by rw[he];simp)
      simp only[gk,gj,gm,ho] at this
      exact this
  have:=lp s.Items N [] OV rfl
  simpa using this
theorem IU {N:Nat} (c:1099000000000≤N) (p:List aw) (n:Qr) (d:p.length≤4294967296):nG N p n=some (w7 p n):=by
  unfold nG
  have:∀ (k i:Nat),i≤p.length→p.length - i < k→j6 N p n k i=some (w7 (p.drop i) n):=by
    intro k
    induction k with
    | zero=>intro i _ h;omega
    | succ k b=>
      intro i e hk
      simp only[j6]
      by_cases a:i < p.length
      · have c1:decide ((i:Int) < (p.length:Int))=true:=decide_eq_true OV
        rw[hy a,B2]
        simp only[c1,if_true,ag a,fI,wr1 i OV,b (i+1) OV OV]
        cases seq p[i].Name n<;>rfl
      · have c1:decide ((i:Int) < (p.length:Int))=false:=decide_eq_false OV
        simp only[c1,gb,if_false]
        rw[hB OV];rfl
  exact this N 0 OV OV
theorem Dd {N:Nat} (k:1099000000000≤N) (p:az) (f:aL) (b:List aw) (he:p.Args.length=f.Fields.length) (m:p.Args.length≤1048576) (o:b.length≤2147483648):∀ (n i:Nat) (s:List aw),i≤p.Args.length→p.Args.length - i < n→s.length≤2147483648+i →
    eA N p f b n s i=some (eF b (p.Args.drop i) (f.Fields.drop i) s):=by
  intro n
  induction n with
  | zero=>intro i s _ h;omega
  | succ n d=>
    intro i s q r t
    simp only[eA]
    by_cases e:i < p.Args.length
    · have c1:decide ((i:Int) < (p.Args.length:Int))=true:=decide_eq_true OV
      have g:i < f.Fields.length:=by omega
      rw[hy e,hy g,eF]
      simp only[c1,if_true,ag e,ag g,fI,IU k s _ (show s.length≤4294967296 by omega),bw,gD (show b.length≤4294967296 by omega),bV (show s.length+[(⟨p.Args[i].S,f.Fields[i]⟩:aw)].length≤4294967296 by simp;omega),wr1 i OV,t8,orS]
      have c:=d (i+1) s OV OV OV
      have l:=d (i+1) (s++[⟨p.Args[i].S,f.Fields[i]⟩]) OV OV (by simp;omega)
      by_cases j:p.Args[i].K=2
      · have a : ¬ p.Args[i].K=1:=by omega
        simp only[j,a,decide_true,decide_false,if_true,if_false,hZ,qa,vy,gb,fI,show ¬ (2:Int)=1 by omega]
        cases bS p.Args[i].V f.Fields[i] with
        | true=>simpa using c
        | false=>simp
      · by_cases a:p.Args[i].K=1
        · simp only[a,decide_true,decide_false,if_true,if_false,hZ,qa,G0,gb,fI,show ¬ (1:Int)=2 by omega]
          cases (w7 s p.Args[i].S).2 with
          | true=>
            simp only[if_true,hI,hZ,gb,if_false]
            cases bS (w7 s p.Args[i].S).1 f.Fields[i] with
            | true=>simpa using c
            | false=>simp
          | false=>simpa using l
        · simp only[a,j,decide_false,if_false,qa,G0,vy,gb,fI]
          simpa using c
    · have c1:decide ((i:Int) < (p.Args.length:Int))=false:=decide_eq_false OV
      simp only[c1,gb,if_false]
      rw[hB OV]
      rfl
theorem Gr (a b:Qr):seq a b=seq b a:=by rw[lK,lK];simp[eq_comm]
theorem wl {N:Nat} (c:1099000000000≤N) (p:az) (f:aL) (b:List aw) (d:p.Args.length≤1048576) (e:b.length≤2147483648):iJ N p f b=some (bz p f b):=by
  unfold iJ bz bw
  rw[gD OV,Gr f.Kind p.Kind]
  simp only[fI,orS]
  cases hk:seq p.Kind f.Kind with
  | false=>simp
  | true=>
    by_cases he:p.Args.length=f.Fields.length
    · have a:decide ((f.Fields.length:Int)=(p.Args.length:Int))=true:=decide_eq_true OV
      have:=(Dd c p f b he d e N 0 b OV OV OV)
      simp only[a,he,hI,vy,gb,if_false,true_and,if_true]
      simpa using this
    · have a:decide ((f.Fields.length:Int)=(p.Args.length:Int))=false:=decide_eq_false OV
      simp[a,he]
theorem tx {N:Nat} (b:1099000000000≤N) (s:ae) (v:Int) (k:s.Items.length≤1048576) (c:∀ x∈s.Items,x.F.Fields.length≤1048576):kI N s v=some (aF s.Items v):=by
  unfold kI
  refine lp0 b s.Items OV (hP N s v) (fun t=>some (aF t v)) (fun n i x t h1 a l d f g j=>?_) (fun n i h1 a=>?_)
  · have e:iP N x.F=some x.F:=by
      unfold iP eE
      rw[gD (show x.F.Fields.length≤4294967296 by have:=c x a;omega)];rfl
    simp only[hP,f,if_true,d,fI,g,j,e,jG]
    by_cases h:x.Id=v<;>simp[h]
  · simp only[hP,a,gb,if_false];rfl
theorem CT {N:Nat} (b:1099000000000≤N) (ps:List az) (s:ae) (ids:List Int) (e:dE ps≤1048576) (hp:∀ p∈ps,p.Args.length≤1048576) (f:s.Items.length≤1048576) (g:∀ x∈s.Items,x.F.Fields.length≤1048576) (m:ids.length≤1048576) (he:ids.length≤ps.length) :
    iH N ps s ids=some (be s.Items (ps.take ids.length) ids []):=by
  unfold iH
  have lp:∀ (n i:Nat) (l:List aw),i≤ids.length→ids.length - i < n→l.length+dE (ps.drop i)≤1048576→et N ps s ids n l i=some (be s.Items ((ps.take ids.length).drop i) (ids.drop i) l):=by
    intro n
    induction n with
    | zero=>intro i _ _ h;omega
    | succ n j=>
      intro i l h1 o c
      by_cases d:i < ids.length
      · have c1:decide ((i:Int) < (ids.length:Int))=true:=decide_eq_true OV
        have a:i < ps.length:=by omega
        have k:i < (ps.take ids.length).length:=by rw[j4];omega
        rw[hy a] at c
        rw[eX] at c
        have q:=lB ps[i] (aF s.Items ids[i]).1 l
        rw[hy d,hy k,be,List.getElem_take]
        simp only[et,c1,if_true,ag d,ag a,fI,tx b s _ f g,wl b ps[i] _ l (hp _ (hK a)) (show l.length≤2147483648 by omega),wr1 i OV]
        cases (aF s.Items ids[i]).2 with
        | false=>simp
        | true=>
          cases (bz ps[i] (aF s.Items ids[i]).1 l).2 with
          | false=>simp
          | true=>
            simp only[hI,gb,if_false,and_self,if_true]
            exact j (i+1) _ OV OV OV
      · have c1:decide ((i:Int) < (ids.length:Int))=false:=decide_eq_false OV
        simp only[et,c1,gb,if_false]
        rw[hB (show (ps.take ids.length).length≤i by rw[j4];omega),hB (show ids.length≤i by omega)];rfl
  have:=lp N 0 [] OV OV (by simpa using e)
  simpa using this
theorem IB {N:Nat} (b:1099000000000≤N) (p:az) (s:ae) (l:List aw) (hp:p.Args.length≤1048576) (j:s.Items.length≤1048576) (e:l.length≤2147483648):nM N p s l=some (ta p l s.Items:Int):=by
  unfold nM
  have:=lp' b s.Items OV (fT N p s l) (fun t k=>some (k+(ta p l t:Int))) (fun k t=>0≤k∧k+t.length≤1048576) (0:Int) (by simp;omega) (fun n k i x t h1 c m f g h d a=>by
    simp only[gj] at d
    simp only[fT,g,if_true,f,fI,wl b p x.F l hp e,h]
    unfold ta at a ⊢
    rw[List.countP_cons]
    cases (bz p x.F l).2 with
    | true=>
      rw[wr (n:=k+1) OV OV]
      simp only[if_true,a (k+1) OV];congr 1;omega
    | false=>simpa using a k OV) (fun n k i h1 c d=>by simp only[fT,c,gb,if_false,ta];simp)
  simpa using this
structure SzG (g:dD):Prop where
  pl:g.pos.length≤1048576
  sa:dE g.pos≤1048576
  pa:∀ p∈g.pos,p.Args.length≤1048576
  nl:g.neg.length≤1048576
  na:∀ p∈g.neg,p.Args.length≤1048576
  sl:g.s.Items.length≤1048576
  fl:∀ x∈g.s.Items,x.F.Fields.length≤1048576
theorem GB {N:Nat} (d:1099000000000≤N) (g:dD) (b:SzG g) (s1:List an) (s2:Int) (K:List an→Int→Option (List an)) (c:List Int) (a:List aw × Bool) (f:a.1.length≤2147483648) :
    d6 N g s1 s2 K c a N [] 0=d5 N s1 s2 K c (eT g.s.Items g.neg a.1):=by
  have j:=b.nl
  refine (lp' d g.neg OV (fun n (u:List Int) i=>d6 N g s1 s2 K c a n u i) (fun t u=>d5 N s1 s2 K c (u++eT g.s.Items t a.1)) (fun u t=>u.length+t.length≤1048576) [] (by simpa using b.nl) (fun n u i p t g1 g2 g3 g4 g5 g6 e h=>?_) (fun n u i g1 g2 e=>?_)).trans OW
  · simp only[gj] at e
    simp only[d6,g5,if_true,g4,fI,IB d p g.s a.1 (b.na p g2) b.sl f,bV (show u.length+[((ta p a.1 g.s.Items:Nat):Int)].length≤4294967296 by simp;omega),g6]
    rw[h _ (by simp;omega)]
    simp[eT]
  · simp only[d6,g2,gb,if_false];simp[eT]
theorem yK {N:Nat} (d:1099000000000≤N) (g:dD) (a:SzG g) (row ids:List Int) (o:row.length+1≤g.pos.length) (h:ids.length≤4294967296) :
    fg N g row ids=some (gL g.s.Items g.pos g.neg row ids):=by
  have p:=a.pl
  unfold fg
  refine (lp' d ids h (fun n (u:List an) i=>cm N g row ids n u i) (fun t u=>some (u++gL g.s.Items g.pos g.neg row t)) (fun u t=>u.length+t.length≤4294967296) [] (by simpa using h) (fun n u i v t g1 g2 g3 g4 g5 g6 j e=>?_) (fun n u i g1 g2 j=>?_)).trans OW
  · simp only[gj] at j
    have k:(row++[v]).length=row.length+1:=by simp
    have q:=sT g.s.Items g.pos (row++[v])
    have r:=a.sa
    have m:be g.s.Items (g.pos.take (row++[v]).length) (row++[v]) []=okB g.s.Items g.pos (row++[v]):=rfl
    simp only[cm,g5,if_true,g4,fI,bm,gD (show row.length≤4294967296 by omega),bV (show row.length+[v].length≤4294967296 by simp;omega),
      CT d g.pos g.s (row++[v]) a.sa a.pa a.sl a.fl OV OV,m,gL,n0]
    have s:(t.flatMap fun b=>oF g.s.Items g.pos g.neg row b)=gL g.s.Items g.pos g.neg row t:=rfl
    cases f:(okB g.s.Items g.pos (row++[v])).2 with
    | false=>
      have c:oF g.s.Items g.pos g.neg row v=[]:=by unfold oF;rw[f];simp
      simp only[hW,if_true,g6,c,hz]
      exact e u OV
    | true=>
      simp only[hI,gb,if_false]
      by_cases l:row.length+1=g.pos.length
      · have c1:decide (((row++[v]).length:Int)=(g.pos.length:Int))=true:=decide_eq_true (by rw[k];omega)
        have c:oF g.s.Items g.pos g.neg row v=[⟨row++[v],eT g.s.Items g.neg (okB g.s.Items g.pos (row++[v])).1⟩]:=by unfold oF;rw[f,if_pos rfl,if_pos l]
        simp only[c1,if_true,GB d g a u _ _ _ _ (show (okB g.s.Items g.pos (row++[v])).1.length≤2147483648 by omega),d5,bV (show u.length+[(⟨row++[v],eT g.s.Items g.neg (okB g.s.Items g.pos (row++[v])).1⟩:an)].length≤4294967296 by simp;omega),fI,g6,c]
        rw[e _ (by simp;omega),gi];rfl
      · have c1:decide (((row++[v]).length:Int)=(g.pos.length:Int))=false:=decide_eq_false (by rw[k];omega)
        have c:oF g.s.Items g.pos g.neg row v=[⟨row++[v],[]⟩]:=by unfold oF;rw[f,if_pos rfl,if_neg l]
        simp only[c1,gb,if_false,d5,bV (show u.length+[(⟨row++[v],[]⟩:an)].length≤4294967296 by simp;omega),fI,g6,c]
        rw[e _ (by simp;omega),gi];rfl
  · simp only[cm,g2,gb,if_false];simp[gL]
def wg (A:Nat→Nat):Nat→List Nat→Nat→Nat→Prop
  | _,[],_,_=>True
  | k,l :: ls,b,f=>(if k=0 then 1 else b+f*A k)+l≤4294967296∧wg A (k+1) ls l (if k=0 then 1 else b+f*A k)
theorem xi {A:Nat→Nat}:∀ {ls:List Nat} {k b f a c:Nat},wg A k ls b f→a≤b→c≤f→wg A k ls a c
  | [],_,_,_,_,_,_,_,_=>trivial
  | l :: ls,k,b,f,a,c,h,d,e=>by
    have hm:(if k=0 then 1 else a+c*A k)≤(if k=0 then 1 else b+f*A k):=by
      split
      · exact hA _
      · exact Nat.add_le_add d (Nat.mul_le_mul_right _ e)
    exact⟨Nat.le_trans (Nat.add_le_add_right hm l) h.1,xi h.2 (hA _) hm⟩
theorem xj (xs:List ak) (ps ns:List az) (id:Int) (k:Nat) (B F:List an) (A:List Int):(jp xs ps ns id k B F A).length≤(if k=0 then 1 else B.length+F.length*A.length):=by
  unfold jp
  split
  · exact rW xs ps ns [] [id]
  · have h1:=sg xs ps ns [id] B
    have a:=sg xs ps ns A F
    simp only[gk,gj,gm,ho,Nat.mul_one] at h1 a ⊢
    omega
theorem AQ {xs:List ak} {ps ns:List az} {id:Int} {k:Nat} {B F:List an} {A:List Int} (b:∀ t∈B,t.Ids.length=k) (c:∀ t∈F,t.Ids.length=k):∀ t∈jp xs ps ns id k B F A,t.Ids.length=k+1:=by
  intro t a
  unfold jp at a
  split at a
  · rename_i hk
    rw[(wZ t a).1,hk];rfl
  · rcases gf.1 a with h | h
    · obtain⟨u,hu,h⟩:=jf.1 h
      rw[(wZ t h).1,b u hu]
    · obtain⟨u,hu,h⟩:=jf.1 h
      rw[(wZ t h).1,c u hu]
theorem Jz {N:Nat} (c:1099000000000≤N) (g:dD) (e:SzG g) (s1:List ar) (F:List an) (k:Nat) (K:List ar→List an→List an→Int→Option (List ar)) (a:Int) (A:bk) (f:idx g.chain.Pos (k:Int)=some a) (h:idx g.alphas a=some A) (hk:k+1≤g.pos.length)
    (j:∀ t∈F,t.Ids.length=k) (b:List an) (l:b.length+F.length*A.L.length≤4294967296) (m:A.L.length≤4294967296) (o:F.length≤4294967296) :
    dI N g s1 F (k:Int) K N b 0=cU N s1 (k:Int) K (b++F.flatMap fun t=>gL g.s.Items g.pos g.neg t.Ids A.L):=by
  refine lp' c F o (fun n (u:List an) i=>dI N g s1 F (k:Int) K n u i) (fun t u=>cU N s1 (k:Int) K (u++t.flatMap fun t=>gL g.s.Items g.pos g.neg t.Ids A.L)) (fun u t=>u.length+t.length*A.L.length≤4294967296) b l (fun n u i v t g1 g2 g3 g4 g5 g6 d p=>?_) (fun n u i g1 g2 d=>?_)
  · rw[gj,hE] at d
    have h1:=rW g.s.Items g.pos g.neg v.Ids A.L
    simp only[dI,g5,if_true,g4,fI,f,h,yK c g e v.Ids A.L (by rw[j v g2];exact hk) m,bV (show u.length+(gL g.s.Items g.pos g.neg v.Ids A.L).length≤4294967296 by omega),g6]
    rw[p _ (by rw[gk];omega),n0,gi]
  · simp only[dI,g2,gb,if_false];simp
theorem KB {N:Nat} (c:1099000000000≤N) (g:dD) (d:SzG g) (s1:List ar) (B F:List an) (k:Nat) (K:List ar→List an→List an→Int→Option (List ar)) (a:Int) (A:bk) (e:idx g.chain.Pos (k:Int)=some a) (f:idx g.alphas a=some A) (hk:k+1≤g.pos.length)
    (h:∀ t∈B,t.Ids.length=k) (j:∀ t∈F,t.Ids.length=k) (l:B.length+F.length*A.L.length≤4294967296) (m:A.L.length≤4294967296) (o:F.length≤4294967296) :
    dT N g s1 B F (k:Int) K N [] 0=cU N s1 (k:Int) K ((B.flatMap fun t=>gL g.s.Items g.pos g.neg t.Ids [g.id])++F.flatMap fun t=>gL g.s.Items g.pos g.neg t.Ids A.L):=by
  refine (lp' c B OV (fun n (u:List an) i=>dT N g s1 B F (k:Int) K n u i) (fun t u=>cU N s1 (k:Int) K (u++(t.flatMap fun t=>gL g.s.Items g.pos g.neg t.Ids [g.id])++F.flatMap fun t=>gL g.s.Items g.pos g.neg t.Ids A.L)) (fun u t=>u.length+t.length+F.length*A.L.length≤4294967296) [] (by simpa using l) (fun n u i v t g1 g2 g3 g4 g5 g6 b p=>?_) (fun n u i g1 g2 b=>?_)).trans OW
  · rw[gj] at b
    have h1:=rW g.s.Items g.pos g.neg v.Ids [g.id]
    simp only[gj,gm,ho] at h1
    simp only[dT,g5,if_true,g4,fI,yK c g d v.Ids [g.id] (by rw[h v g2];exact hk) OW,bV (show u.length+(gL g.s.Items g.pos g.neg v.Ids [g.id]).length≤4294967296 by omega),g6]
    rw[p _ (by rw[gk];omega),n0]
    simp only[gi]
  · simp only[dT,g2,gb,if_false]
    simp only[gm,jt] at b
    rw[Jz c g d s1 F k K a A e f hk j u b m o];simp
theorem FL {N:Nat} (e:1099000000000≤N) (g:dD) (d:SzG g) (b:List ar) (A:Nat→List Int) (hp:b.length≤g.pos.length) (s:∀ k,k < b.length→∃ a i,idx g.chain.Pos (k:Int)=some a∧idx g.alphas a=some i∧i.L=A k) (u:∀ k,(A k).length≤4294967296) :
    ∀ (rest:List ar) (n:Nat) (done:List ar) (B F:List an),rest.length < n→done.length+rest.length=b.length→(∀ t∈B,t.Ids.length=done.length)→(∀ t∈F,t.Ids.length=done.length)→(∀ i L,rest[i]?=some L→∀ t∈L.Toks,t.Ids.length=done.length+1+i) →
      F.length≤4294967296→wg (fun k=>(A k).length) done.length (rest.map (·.Toks.length)) B.length F.length→cr N g b n (done++rest) B F (done.length:Int)=some (done++lS g.s.Items g.pos g.neg g.id A done.length rest B F)
  | [],n,done,B,F,f,h,l,o,p,v,w=>by
    obtain⟨n,rfl⟩:∃ m,n=m+1:=⟨n - 1,by simp at f;omega⟩
    simp only[gm,jt] at h
    have c1:decide ((done.length:Int) < (b.length:Int))=false:=decide_eq_false OV
    simp only[cr,c1,gb,if_false,lS]
  | L :: Ls,n,done,B,F,f,h,l,o,p,v,w=>by
    obtain⟨n,rfl⟩:∃ m,n=m+1:=⟨n - 1,OV⟩
    simp only[gj] at f h
    obtain⟨x,y⟩:=w
    simp only at x y
    have O:=d.pl
    have c1:decide ((done.length:Int) < (b.length:Int))=true:=decide_eq_true OV
    obtain⟨a,i,z,C,q⟩:=s done.length OV
    have D:=xj g.s.Items g.pos g.neg g.id done.length B F (A done.length)
    have E:=AQ (xs:=g.s.Items) (ps:=g.pos) (ns:=g.neg) (id:=g.id) (A:=A done.length) l o
    have key:∀ M,M=jp g.s.Items g.pos g.neg g.id done.length B F (A done.length)→cU N (done++L :: Ls) (done.length:Int) (cr N g b n) M=some (done++lS g.s.Items g.pos g.neg g.id A done.length (L :: Ls) B F):=by
      intro M G
      subst G
      have H:idx (done++L :: Ls) (done.length:Int)=some L:=by rw[mR];simp
      have I:(done++L :: Ls).set ((done.length:Int)).toNat ⟨L.Toks++jp g.s.Items g.pos g.neg g.id done.length B F (A done.length)⟩=(done++[⟨L.Toks++jp g.s.Items g.pos g.neg g.id done.length B F (A done.length)⟩])++Ls:=by
        rw[hQ,sX _ _ (hA _),ti,OZ,gi];rfl
      simp only[cU,H,fI,eV,gD (show L.Toks.length≤4294967296 by omega),bV (show L.Toks.length+(jp g.s.Items g.pos g.neg g.id done.length B F (A done.length)).length≤4294967296 by omega),I,wr1 done.length OV]
      have:=FL e g d b A hp s u Ls n (done++[⟨L.Toks++jp g.s.Items g.pos g.neg g.id done.length B F (A done.length)⟩]) L.Toks (jp g.s.Items g.pos g.neg g.id done.length B F (A done.length)) OV (by simp;omega)
        (fun t c=>by have:=p 0 L rfl t c;simpa using this) (fun t c=>by simpa using E t c) (fun j M K t c=>by have:=p (j+1) M (by simpa using K) t c;simp only[gk,gj,gm];omega) OV
        (by simp only[gk,gj,gm];exact xi y (hA _) D)
      simp only[gk,gj,gm,ho] at this
      rw[this,gi];rfl
    simp only[cr,c1,if_true]
    by_cases r:done.length=0
    · have c2:decide ((done.length:Int)=0)=true:=decide_eq_true OV
      simp only[c2,if_true,yK e g d [] [g.id] (by simp;omega) OW,fI]
      exact key _ (by unfold jp;rw[if_pos r])
    · have c2:decide ((done.length:Int)=0)=false:=decide_eq_false OV
      rw[if_neg r] at x
      simp only[c2,gb,if_false]
      rw[KB e g d _ B F done.length _ a i z C OV l o (by rw[q];omega) (by rw[q];exact u _) v,q]
      exact key _ (by unfold jp;rw[if_neg r])
theorem M3 {N:Nat} (c:1099000000000≤N) (g:dD) (b:SzG g) (ls:List ar) (A:Nat→List Int) (hp:ls.length≤g.pos.length) (d:∀ k,k < ls.length→∃ a i,idx g.chain.Pos (k:Int)=some a∧idx g.alphas a=some i∧i.L=A k) (e:∀ k,(A k).length≤4294967296)
    (f:∀ i L,ls[i]?=some L→∀ t∈L.Toks,t.Ids.length=i+1) (j:wg (fun k=>(A k).length) 0 (ls.map (·.Toks.length)) 0 0):iB N g ls=some (lS g.s.Items g.pos g.neg g.id A 0 ls [] []):=by
  have m:=b.pl
  have:=FL c g b ls A hp d e ls N [] [] [] OV OW OW OW (fun i L h t l=>by rw[f i L h t l];simp;omega) OW (by simpa using j)
  unfold iB
  simpa using this
theorem qx {N:Nat} (d:1099000000000≤N) (r:ah) (b:Bool) (e:r.Pats.length≤1048576):ow N r b=some (r.Pats.filter fun p=>p.Not == b):=by
  unfold ow
  refine (lp' d r.Pats OV (jF N r b) (fun t u=>some (u++t.filter fun p=>p.Not == b)) (fun u t=>u.length+t.length≤1048576) [] (by simpa using e) (fun n u i p t g1 g2 g3 g4 g5 g6 a c=>?_) (fun n u i g1 g2 a=>?_)).trans OW
  · simp only[gj] at a
    simp only[jF,g5,if_true,g4,fI,j8,g6]
    cases f:(p.Not == b) with
    | true=>
      simp only[if_true,bV (show u.length+[p].length≤4294967296 by simp;omega),fI]
      rw[c _ (by simp;omega)];simp
    | false=>
      simp only[gb,if_false]
      exact c u OV
  · simp only[jF,g2,gb,if_false];simp
theorem jd {α:Type} (d:List α) (x y:α) (t:List α):(d++x :: t).set d.length y=(d++[y])++t:=by
  rw[sX _ _ (hA _),ti,OZ,gi];rfl
theorem du {α:Type} (d:List α) (x:α) (t:List α):idx (d++x :: t) (d.length:Int)=some x:=by rw[mR];simp
theorem Cs {N:Nat} (r:1099000000000≤N) (g:dD) (l:SzG g) (d:Int) (i:aL × Bool) (s1:List an) (s2:Int) (K:List an→Int→Option (List an)) (o:an) (e:List aw × Bool) (s:e.1.length≤2147483648) :
    ∀ (ns:List az) (n:Nat) (a:List az) (b h:List Int),ns.length < n→g.neg=a++ns→b.length=a.length→h.length=ns.length →
      cV N g d i s1 s2 K o e n (b++h) (a.length:Int)=K (s1.set s2.toNat ⟨o.Ids,b++kC i.1 e.1 d ns h⟩) (IntKind.i64.wrap (s2+1))
  | [],n,a,b,h,j,c,f,k=>by
    obtain⟨n,rfl⟩:∃ m,n=m+1:=⟨n - 1,by simp at j;omega⟩
    have c1:decide ((a.length:Int) < (g.neg.length:Int))=false:=decide_eq_false (by rw[c];simp)
    simp only[cV,c1,gb,if_false,kC]
  | p :: ns,n,a,b,[],j,c,f,k=>by simp at k
  | p :: ns,n,a,b,x :: h,j,c,f,k=>by
    obtain⟨n,rfl⟩:∃ m,n=m+1:=⟨n - 1,OV⟩
    simp only[gj] at j k
    have w:=l.nl
    have y:g.neg.length=a.length+(ns.length+1):=by rw[c];simp
    have c1:decide ((a.length:Int) < (g.neg.length:Int))=true:=decide_eq_true OV
    have t:idx g.neg (a.length:Int)=some p:=by rw[c];exact du _ _ _
    have u:idx (b++x :: h) (a.length:Int)=some x:=by rw[← f];exact du _ _ _
    have hp:p∈g.neg:=by rw[c];simp
    simp only[cV,c1,if_true,t,fI,wl r p i.1 e.1 (l.na p hp) s,wr1 a.length OV,kC]
    have q:=Cs r g l d i s1 s2 K o e s ns n (a++[p])
    simp only[gk,gj,gm,ho] at q
    cases hm:(bz p i.1 e.1).2 with
    | true=>
      simp only[if_true,u,fI]
      have v:(b++x :: h).set ((a.length:Int)).toNat (IntKind.i64.wrap (x+d))=(b++[IntKind.i64.wrap (x+d)])++h:=by rw[hQ,← f];exact jd _ _ _ _
      rw[v,q (b++[IntKind.i64.wrap (x+d)]) h OV (by rw[c];simp) (by simp[f]) OV]
      simp
    | false=>
      simp only[gb,if_false]
      have:=q (b++[x]) h OV (by rw[c];simp) (by simp[f]) OV
      simp only[gi,hS,hz] at this
      exact this
theorem Cx {N:Nat} (h:1099000000000≤N) (g:dD) (e:SzG g) (f:List an) (b:Int) (c:aL × Bool) (p:f.length≤4294967296):∀ (a:List an) (n:Nat) (d:List an),a.length < n→d.length+a.length=f.length→(∀ t∈a,t.Ids.length≤g.pos.length∧t.Hits.length=g.neg.length) →
    cw N g f b c n (d++a) (d.length:Int)=some (d++jS g.s.Items g.pos g.neg c.1 b a)
  | [],n,d,i,j,k=>by
    obtain⟨n,rfl⟩:∃ m,n=m+1:=⟨n - 1,by simp at i;omega⟩
    simp only[gm,jt] at j
    have c1:decide ((d.length:Int) < (f.length:Int))=false:=decide_eq_false OV
    simp only[cw,c1,gb,if_false,jS,rr]
  | t :: a,n,d,i,j,k=>by
    obtain⟨n,rfl⟩:∃ m,n=m+1:=⟨n - 1,OV⟩
    simp only[gj] at i j
    have w:=e.pl
    have x:=e.sa
    have c1:decide ((d.length:Int) < (f.length:Int))=true:=decide_eq_true OV
    obtain⟨h1,q⟩:=k t OW
    have z:=sT g.s.Items g.pos t.Ids
    have r:be g.s.Items (g.pos.take t.Ids.length) t.Ids []=okB g.s.Items g.pos t.Ids:=rfl
    have l:=fun y=>Cx h g e f b c p a n (d++[y]) OV (by simp;omega) (fun u hu=>k u (by simp[hu]))
    simp only[gk,gj,gm,ho] at l
    simp only[cw,c1,if_true,du,fI,CT h g.pos g.s t.Ids e.sa e.pa e.sl e.fl OV h1,r,wr1 d.length OV]
    have s:jS g.s.Items g.pos g.neg c.1 b (t :: a)=(if (okB g.s.Items g.pos t.Ids).2=true then ⟨t.Ids,kC c.1 (okB g.s.Items g.pos t.Ids).1 b g.neg t.Hits⟩ else t) :: jS g.s.Items g.pos g.neg c.1 b a:=rfl
    rw[s]
    cases A:(okB g.s.Items g.pos t.Ids).2 with
    | false=>
      simp only[hW,if_true,gb,if_false]
      have:=l t
      simp only[gi,hS,hz] at this
      exact this
    | true=>
      simp only[hI,gb,if_false,if_true]
      have o:=Cs h g e b c (d++t :: a) (d.length:Int) (cw N g f b c n) t (okB g.s.Items g.pos t.Ids) OV g.neg N [] [] t.Hits (by have:=e.nl;omega) rfl rfl q
      simp only[hz,gm,l4,hQ] at o
      have v:cV N g b c (d++t :: a) (d.length:Int) (cw N g f b c n) t (okB g.s.Items g.pos t.Ids) N t.Hits 0=_:=o
      rw[v,jd,wr1 d.length OV,l,gi];rfl
theorem EQ {N:Nat} (d:1099000000000≤N) (g:dD) (b:SzG g) (a:List an) (c:Int) (e:a.length≤4294967296) (f:∀ t∈a,t.Ids.length≤g.pos.length∧t.Hits.length=g.neg.length) :
    fB N g a c=some (jS g.s.Items g.pos g.neg (aF g.s.Items g.id).1 c a):=by
  unfold fB
  rw[tx d g.s g.id b.sl b.fl,fI]
  have:=Cx d g b a c (aF g.s.Items g.id) e a N [] OV OW f
  simpa using this
structure Dn (as:List bk) (r:ah) (c:aG) (row:aH):Prop where
  ne:1≤row.Levels.length
  ll:row.Levels.length=(pos r.Pats).length
  ids:∀ i L,row.Levels[i]?=some L→∀ t∈L.Toks,t.Ids.length=i+1
  hit:∀ L,row.Levels[row.Levels.length - 1]?=some L→∀ t∈L.Toks,t.Hits.length=(neg r.Pats).length
  at_:∀ k,k < row.Levels.length→∃ a i,idx c.Pos (k:Int)=some a∧idx as a=some i
  fit:wg (fun k=>(qG as c k).length) 0 (row.Levels.map (·.Toks.length)) 0 0
  al:∀ k,(qG as c k).length≤4294967296
theorem y4 {A:Nat→Nat}:∀ {ls:List Nat} {k b f:Nat},wg A k ls b f→∀ l∈ls,l≤4294967296
  | [],_,_,_,_,_,h=>by cases h
  | l :: ls,k,b,f,h,x,a=>by
    rcases hV.1 a with rfl | a
    · have:=h.1;omega
    · exact y4 h.2 x a
theorem Ca {row:aH} {L:ar} {M:List an} {i:Nat} (a:row.Levels[i]?=some L) (b:M.length=L.Toks.length):(row.Levels.set i ⟨M⟩).map (·.Toks.length)=row.Levels.map (·.Toks.length):=by
  rw[List.map_set]
  have:(row.Levels.map (·.Toks.length))[i]?=some L.Toks.length:=by rw[List.getElem?_map,a];rfl
  apply List.ext_getElem?
  intro j
  rw[List.getElem?_set]
  split
  · rename_i e;subst e
    split
    · rw[this,← b]
    · rename_i c;rw[List.length_map] at c;have:=(gI.1 a).1;omega
  · rfl
theorem ub {as:List bk} {c:aG} {k:Nat} {a:Int} {i:bk} (h1:idx c.Pos (k:Int)=some a) (b:idx as a=some i):i.L=qG as c k:=by
  unfold qG
  rw[mR] at h1
  rw[h1]
  simp only[b]
structure SzR (r:ah):Prop where
  pl:r.Pats.length≤1048576
  sa:dE r.Pats≤1048576
  pa:∀ p∈r.Pats,p.Args.length≤1048576
theorem Ax {r:ah} {c:aG} {as:List bk} {s:ae} {id:Int} (a:SzR r) (b:s.Items.length≤1048576) (d:∀ x∈s.Items,x.F.Fields.length≤1048576):SzG ⟨pos r.Pats,neg r.Pats,c,as,s,id⟩:=by
  have h1:=qT r.Pats
  have e:=a.sa
  have f:(pos r.Pats).length≤r.Pats.length:=py _ _
  have g:(neg r.Pats).length≤r.Pats.length:=py _ _
  have h:=a.pl
  exact⟨by simp only;omega,by simp only;omega,fun p hp=>a.pa p (List.mem_filter.1 hp).1,by simp only;omega,fun p hp=>a.pa p (List.mem_filter.1 hp).1,b,d⟩
theorem Cv (l:List az):(l.filter fun p=>p.Not == true)=neg l:=by
  unfold neg;congr 1;funext p;cases p.Not<;>rfl
theorem Nw {N:Nat} (n:1099000000000≤N) (r:ah) (c:aG) (as:List bk) (s:ae) (id:Int) (row:aH) (o:SzR r) (p:s.Items.length≤1048576) (q:∀ x∈s.Items,x.F.Fields.length≤1048576) (ok:Dn as r c row) {β:Type} (K:List ar→Option β) :
    ((idx row.Levels (IntKind.i64.wrap ((row.Levels.length:Int) - 1))).bind fun v=>((fB N ⟨pos r.Pats,neg r.Pats,c,as,s,id⟩ v.Toks 1).bind fun w=>((iB N ⟨pos r.Pats,neg r.Pats,c,as,s,id⟩ (row.Levels.set (IntKind.i64.wrap ((row.Levels.length:Int) - 1)).toNat (⟨w⟩:ar))).bind fun y=>K y)))
      = K (nw s.Items as (aF s.Items id).1 id r c row).Levels:=by
  have l:=Ax (c:=c) (as:=as) (s:=s) (id:=id) o p q
  have D:=ok.ne
  have E:=ok.ll
  have z:=l.pl
  simp only at z
  have A:IntKind.i64.wrap ((row.Levels.length:Int) - 1)=((row.Levels.length - 1:Nat):Int):=by
    rw[show ((row.Levels.length:Int) - 1)=((row.Levels.length - 1:Nat):Int) by omega]
    exact wr OV OV
  have m:row.Levels.length - 1 < row.Levels.length:=by omega
  have d:row.Levels[row.Levels.length - 1]?=some row.Levels[row.Levels.length - 1]:=gx m
  have hlen:(row.Levels[row.Levels.length - 1]).Toks.length≤4294967296:=y4 ok.fit _ (hG.2 ⟨_,hK m,rfl⟩)
  rw[A,ag m,fI,EQ n _ l _ 1 hlen (fun t g=>⟨by have:=ok.ids _ _ d t g;simp only;omega,ok.hit _ d t g⟩),fI,hQ]
  have B:=Ca (M:=jS s.Items (pos r.Pats) (neg r.Pats) (aF s.Items id).1 1 (row.Levels[row.Levels.length - 1]).Toks) d (xp _)
  have C:=M3 n _ l (row.Levels.set (row.Levels.length - 1) ⟨jS s.Items (pos r.Pats) (neg r.Pats) (aF s.Items id).1 1 (row.Levels[row.Levels.length - 1]).Toks⟩) (qG as c) (by simp only[List.length_set];omega)
    (fun k hk=>by
      rw[List.length_set] at hk
      obtain⟨a,i,h1,j⟩:=ok.at_ k hk
      exact⟨a,i,h1,j,ub h1 j⟩) ok.al
    (fun i L h t g=>by
      rw[List.getElem?_set] at h
      split at h
      · rename_i e;subst e
        · simp only[Option.some.injEq] at h
          subst h
          have h1:=rC (xs:=s.Items) (ps:=pos r.Pats) (ns:=neg r.Pats) (f:=(aF s.Items id).1) (b:=1) (row.Levels[row.Levels.length - 1]).Toks
          have j:t.Ids∈(row.Levels[row.Levels.length - 1]).Toks.map (·.Ids):=by rw[← h1];exact hG.2 ⟨t,g,rfl⟩
          obtain⟨u,hu,e⟩:=hG.1 j
          rw[← e];exact ok.ids _ _ d u hu
      · exact ok.ids i L h t g)
    (by rw[B];exact ok.fit)
  rw[C,fI]
  unfold nw cZ
  rw[d]
theorem HD {N:Nat} (u:1099000000000≤N) (d:bf) (n:bH) (m:aJ) (s:ae) (id:Int) (as:List bk) (y:s.Items.length≤1048576) (z:∀ x∈s.Items,x.F.Fields.length≤1048576) (A:m.Rules.length≤1048576) :
    ∀ (ws:List aH) (b:List ah) (cs:List aG) (k:Nat) (e:List ah) (f:List aG) (a:List aH),ws.length < k→d.Rules=e++b→n.Chains=f++cs→a.length+ws.length=m.Rules.length→e.length=a.length→f.length=a.length→b.length=ws.length→cs.length=ws.length →
      (∀ (i:Nat) (r:ah) (c:aG) (w:aH),b[i]?=some r→cs[i]?=some c→ws[i]?=some w→SzR r∧Dn as r c w) →
      fj N d n m s id as k (a++ws) (a.length:Int)=some (as,a++oL (nw s.Items as (aF s.Items id).1 id) b cs ws)
  | [],b,cs,k,e,f,a,hk,h1,g,h,l,o,p,q,t=>by
    obtain⟨k,rfl⟩:∃ j,k=j+1:=⟨k - 1,by simp at hk;omega⟩
    simp only[gm,jt] at h
    have c1:decide ((a.length:Int) < (m.Rules.length:Int))=false:=decide_eq_false OV
    simp only[fj,c1,gb,if_false]
    cases b<;>cases cs<;>simp[oL]
  | w :: ws,[],cs,k,e,f,a,hk,h1,g,h,l,o,p,q,t=>by simp at p
  | w :: ws,r :: b,[],k,e,f,a,hk,h1,g,h,l,o,p,q,t=>by simp at q
  | w :: ws,r :: b,c :: cs,k,e,f,a,hk,h1,g,h,l,o,p,q,t=>by
    obtain⟨k,rfl⟩:∃ j,k=j+1:=⟨k - 1,OV⟩
    simp only[gj] at hk h p q
    have c1:decide ((a.length:Int) < (m.Rules.length:Int))=true:=decide_eq_true OV
    obtain⟨v,B⟩:=t 0 r c w rfl rfl rfl
    have C:idx d.Rules (a.length:Int)=some r:=by rw[h1,← l];exact du _ _ _
    have D:idx n.Chains (a.length:Int)=some c:=by rw[g,← o];exact du _ _ _
    simp only[fj,c1,if_true,du,fI,lh,C,D,qx u r false v.pl,qx u r true v.pl,z8,Cv]
    rw[Nw u r c as s id w v y z B (fun E=>fj N d n m s id as k ((a++w :: ws).set (a.length:Int).toNat (⟨E⟩:aH)) (IntKind.i64.wrap ((a.length:Int)+1)))]
    rw[hQ,jd,wr1 a.length OV]
    have:=HD u d n m s id as y z A ws b cs k (e++[r]) (f++[c]) (a++[⟨(nw s.Items as (aF s.Items id).1 id r c w).Levels⟩]) OV (by rw[h1];simp) (by rw[g];simp) (by simp;omega) (by simp[l]) (by simp[o]) OV OV
      (fun i F G w' H a2 a3=>t (i+1) F G w' (by simpa using H) (by simpa using a2) (by simpa using a3))
    simp only[gk,gj,gm,ho] at this
    rw[this,gi]
    rfl
theorem Hw {N:Nat} (o:1099000000000≤N) (d:bf) (n:bH) (m:aJ) (s:ae) (id:Int) (f:aL × Bool) (p:∀ a∈n.Alphas,a.At.length≤1048576) (q:n.Alphas.length≤1048576) :
    ∀ (as:List ax) (k:Nat) (b:List ax) (c is:List bk),as.length < k→n.Alphas=b++as→c.length=b.length→is.length=as.length→(∀ i∈is,i.L.length+1≤4294967296) →
      fd N d n m s id f k (c++is) (b.length:Int)=fj N d n m s id (c++cS f.1 id as is) N m.Rules 0
  | [],k,b,c,is,hk,h1,e,g,h=>by
    obtain⟨k,rfl⟩:∃ j,k=j+1:=⟨k - 1,by simp at hk;omega⟩
    have c1:decide ((b.length:Int) < (n.Alphas.length:Int))=false:=decide_eq_false (by rw[h1];simp)
    simp only[fd,c1,gb,if_false,cS]
  | a :: as,k,b,c,[],hk,h1,e,g,h=>by simp at g
  | a :: as,k,b,c,i :: is,hk,h1,e,g,h=>by
    obtain⟨k,rfl⟩:∃ j,k=j+1:=⟨k - 1,OV⟩
    simp only[gj] at hk g
    have z:n.Alphas.length=b.length+(as.length+1):=by rw[h1];simp
    have c1:decide ((b.length:Int) < (n.Alphas.length:Int))=true:=decide_eq_true OV
    have r:idx n.Alphas (b.length:Int)=some a:=by rw[h1];exact du _ _ _
    have t:idx (c++i :: is) (b.length:Int)=some i:=by rw[← e];exact du _ _ _
    have u:a∈n.Alphas:=by rw[h1];simp
    have v:=h i OW
    have l:=fun y=>Hw o d n m s id f p q as k (b++[a]) (c++[y]) is OV (by rw[h1];simp) (by simp[e]) OV (fun j w=>h j (by simp[w]))
    simp only[gk,gj,gm,ho,gi,hS,hz] at l
    simp only[fd,c1,if_true,r,fI,HK o a f.1 (p a u),wr1 b.length OV,cS]
    cases hp:dK a f.1 with
    | true=>
      simp only[if_true,t,fI,bV (show i.L.length+[id].length≤4294967296 by simpa using v)]
      have x:(c++i :: is).set ((b.length:Int)).toNat (⟨i.L++[id]⟩:bk)=c++⟨i.L++[id]⟩ :: is:=by
        rw[hQ,← e,jd,gi];rfl
      rw[x]
      exact l _
    | false=>
      simp only[gb,if_false]
      exact l i
structure KZ (d:bf) (n:bH) (m:aJ) (s:ae) (id:Int):Prop where
  sl:s.Items.length≤1048576
  fl:∀ x∈s.Items,x.F.Fields.length≤1048576
  at_:∀ a∈n.Alphas,a.At.length≤1048576
  al:n.Alphas.length≤1048576
  rl:m.Rules.length≤1048576
  la:m.Alphas.length=n.Alphas.length
  lc:n.Chains.length=m.Rules.length
  ld:d.Rules.length=m.Rules.length
  il:∀ i∈m.Alphas,i.L.length+1≤4294967296
  rows:∀ (i:Nat) (r:ah) (c:aG) (w:aH),d.Rules[i]?=some r→n.Chains[i]?=some c→m.Rules[i]?=some w→SzR r∧Dn (cS (aF s.Items id).1 id n.Alphas m.Alphas) r c w
theorem Lb {N:Nat} (a:1099000000000≤N) (d:bf) (n:bH) (m:aJ) (s:ae) (id:Int) (h:KZ d n m s id):mK N d n m s id=some ((xf d n m s id).Alphas,(xf d n m s id).Rules):=by
  have e:=h.al
  have f:=h.rl
  unfold mK
  rw[tx a s id h.sl h.fl,fI]
  have h1:=Hw a d n m s id (aF s.Items id) h.at_ h.al n.Alphas N [] [] m.Alphas OV rfl rfl h.la h.il
  simp only[hz,gm,l4] at h1
  have c:fd N d n m s id (aF s.Items id) N m.Alphas 0=_:=h1
  rw[c]
  have b:=HD a d n m s id (cS (aF s.Items id).1 id n.Alphas m.Alphas) h.sl h.fl h.rl m.Rules d.Rules n.Chains N [] [] [] OV rfl rfl OW rfl rfl h.ld h.lc h.rows
  simp only[hz,gm,l4] at b
  exact b
def InR (x:Int):Prop:=IntKind.i64.wrap x=x
theorem EN {N:Nat} (c s2:Int) (K:List an→Int→Option (List an)) (f:aL) (l:List aw) (o:c=1∨c = -1) (d:List Int) (r:d.length≤1048576) (done:List an) (k:s2=(done.length:Int)) (ids:List Int) (rest:List an) :
    ∀ (ns:List az) (n:Nat) (a b h:List Int),ns.length < n→d=a++pD ns f l→b.length=a.length→h.length=ns.length→(∀ x∈h,InR x) →
      ey N c s2 K (l,true) d n (done++⟨ids,b++h⟩ :: rest) (a.length:Int)=K (done++⟨ids,b++kC f l c ns h⟩ :: rest) (IntKind.i64.wrap (s2+1))
  | [],n,a,b,h,g,h1,e,i,j=>by
    obtain⟨n,rfl⟩:∃ m,n=m+1:=⟨n - 1,by simp at g;omega⟩
    have c1:decide ((a.length:Int) < (d.length:Int))=false:=decide_eq_false (by rw[h1];simp[pD])
    simp only[ey,c1,gb,if_false,fI,kC]
  | p :: ns,n,a,b,[],g,h1,e,i,j=>by simp at i
  | p :: ns,n,a,b,x :: h,g,h1,e,i,j=>by
    obtain⟨n,rfl⟩:∃ m,n=m+1:=⟨n - 1,OV⟩
    simp only[gj] at g i
    have D:d.length=a.length+(ns.length+1):=by rw[h1];simp[pD]
    have c1:decide ((a.length:Int) < (d.length:Int))=true:=decide_eq_true OV
    have q:pD (p :: ns) f l=(if (bz p f l).2=true then 1 else 0) :: pD ns f l:=rfl
    have s:idx d (a.length:Int)=some (if (bz p f l).2=true then 1 else 0):=by rw[h1,q];exact du _ _ _
    have t:idx (done++(⟨ids,b++x :: h⟩:an) :: rest) s2=some ⟨ids,b++x :: h⟩:=by rw[k];exact du _ _ _
    have u:idx (b++x :: h) (a.length:Int)=some x:=by rw[← e];exact du _ _ _
    have v:IntKind.i64.wrap x=x:=j x OW
    have w:IntKind.i64.wrap (x+IntKind.i64.wrap (c*(if (bz p f l).2=true then 1 else 0)))=if (bz p f l).2=true then IntKind.i64.wrap (x+c) else x:=by
      split
      · rw[Int.mul_one]
        have:IntKind.i64.wrap c=c:=by rcases o with rfl | rfl<;>decide
        rw[this]
      · rw[Int.mul_zero,show IntKind.i64.wrap 0=0 by decide,Int.add_zero,v]
    have A:∀ y:Int,(b++x :: h).set ((a.length:Int)).toNat y=(b++[y])++h:=fun y=>by rw[hQ,← e];exact jd _ _ _ _
    have B:∀ y:an,(done++(⟨ids,b++x :: h⟩:an) :: rest).set s2.toNat y=done++y :: rest:=fun y=>by rw[k,hQ,jd,gi];rfl
    simp only[ey,c1,if_true,fI,s,t,u,w,A,B,wr1 a.length OV]
    have:=EN (N:=N) c s2 K f l o d r done k ids rest ns n (a++[if (bz p f l).2=true then 1 else 0]) (b++[if (bz p f l).2=true then IntKind.i64.wrap (x+c) else x]) h OV (by rw[h1,q];simp) (by simp[e]) OV (fun z C=>j z (by simp[C]))
    simp only[gk,gj,gm,ho] at this
    rw[this,kC]
    simp only[gi,hS,hz]
theorem Ic {N:Nat} (g:1099000000000≤N) (r:ah) (s:ae) (d:SzS r s) (f:aL) (a:Int) (j:a=1∨a = -1) (c:List an) (k:c.length≤4294967296)
    (o:∀ t∈c,t.Ids.length≤ao r.Pats∧t.Hits.length=(neg r.Pats).length∧∀ x∈t.Hits,InR x):mG N r s c f a=some (jS s.Items (pos r.Pats) (neg r.Pats) f a c):=by
  have B:=d.pl
  have C:(neg r.Pats).length≤r.Pats.length:=py _ _
  unfold mG
  have lp:∀ (b:List an) (n:Nat) (done:List an),b.length < n→done.length+b.length≤4294967296→(∀ t∈b,t∈c)→df N r s f a n (done++b) (done.length:Int)=some (done++jS s.Items (pos r.Pats) (neg r.Pats) f a b):=by
    intro b
    induction b with
    | nil=>
      intro n done e i hm
      obtain⟨n,rfl⟩:∃ m,n=m+1:=⟨n - 1,by simp at e;omega⟩
      have c1:decide ((done.length:Int) < ((done++[]).length:Int))=false:=decide_eq_false OW
      simp only[df,c1,gb,if_false,jS,rr]
    | cons t b p=>
      intro n done e i hm
      obtain⟨n,rfl⟩:∃ m,n=m+1:=⟨n - 1,OV⟩
      simp only[gj] at e i
      have c1:decide ((done.length:Int) < ((done++t :: b).length:Int))=true:=decide_eq_true (by simp;omega)
      obtain⟨h1,q,v⟩:=o t (hm t OW)
      obtain⟨l,g1,g2,g3⟩:=Bt g r s d t.Ids h1
      simp only[df,c1,if_true,du,fI,g1,L5 g r f l d.pl d.pa g3]
      have w:jS s.Items (pos r.Pats) (neg r.Pats) f a (t :: b)=(if (okB s.Items (pos r.Pats) t.Ids).2=true then ⟨t.Ids,kC f (okB s.Items (pos r.Pats) t.Ids).1 a (neg r.Pats) t.Hits⟩ else t) :: jS s.Items (pos r.Pats) (neg r.Pats) f a b:=rfl
      rw[w]
      have next:=fun y=>p n (done++[y]) OV (by simp;omega) (fun u hu=>hm u (by simp[hu]))
      simp only[gk,gj,gm,ho,gi,hS,hz] at next
      cases z:(okB s.Items (pos r.Pats) t.Ids).2 with
      | false=>
        simp only[gb,if_false]
        have:∀ n,ey N a (done.length:Int) (df N r s f a n) (l,false) (pD (neg r.Pats) f l) N (done++t :: b) 0=df N r s f a n (done++t :: b) (IntKind.i64.wrap ((done.length:Int)+1)):=fun n=>by
          obtain⟨M,rfl⟩:∃ m,N=m+1:=⟨N - 1,OV⟩
          unfold ey
          split<;>simp
        rw[this,wr1 done.length OV]
        exact next t
      | true=>
        obtain rfl:=g2 z
        simp only[if_true]
        have:=EN (N:=N) a (done.length:Int) (df N r s f a n) f (okB s.Items (pos r.Pats) t.Ids).1 j (pD (neg r.Pats) f (okB s.Items (pos r.Pats) t.Ids).1) (by simp[pD];omega) done rfl t.Ids b (neg r.Pats) N [] [] t.Hits OV rfl rfl q v
        simp only[hz,gm,l4] at this
        have A:ey N a (done.length:Int) (df N r s f a n) ((okB s.Items (pos r.Pats) t.Ids).1,true) (pD (neg r.Pats) f (okB s.Items (pos r.Pats) t.Ids).1) N (done++t :: b) 0=_:=this
        rw[A,wr1 done.length OV]
        exact next _
  have:=lp c N [] OV (by simpa using k) (fun t h=>h)
  simpa using this
def oT (xs:List ak) (ps:List az) (row ids:List Int):List an:=ids.flatMap (lI xs ps row)
def xN (xs:List ak) (ps:List az) (id:Int) (k:Nat) (B F:List an) (A:List Int):List an:=
  (if k=0 then lI xs ps [] id else B.flatMap fun t=>lI xs ps t.Ids id)++F.flatMap fun t=>oT xs ps t.Ids A
def wI (xs:List ak) (ps ns:List az) (k:Nat) (t:an):an:=if k+1=ps.length then ⟨t.Ids,eT xs ns (okB xs ps t.Ids).1⟩ else t
theorem wU {xs:List ak} {ps ns:List az} {row:List Int} {id:Int} {k:Nat} (h:row.length=k):(lI xs ps row id).map (wI xs ps ns k)=oF xs ps ns row id:=by
  subst h
  unfold lI oF
  by_cases a:(okB xs ps (row++[id])).2=true
  · rw[if_pos a,if_pos a,List.map_cons,rr]
    unfold wI
    by_cases hk:row.length+1=ps.length
    · rw[if_pos hk,if_pos hk]
    · rw[if_neg hk,if_neg hk]
  · rw[if_neg a,if_neg a];rfl
theorem GV {xs:List ak} {ps ns:List az} {row:List Int} {k:Nat} (h:row.length=k) (ids:List Int):(oT xs ps row ids).map (wI xs ps ns k)=gL xs ps ns row ids:=by
  unfold oT gL
  rw[P0]
  congr 1
  funext v
  exact wU h
theorem mT {α β:Type} {f g:α→List β}:∀ {l:List α},(∀ x∈l,f x=g x)→l.flatMap f=l.flatMap g
  | [],_=>rfl
  | x :: t,h=>by rw[n0,n0,h x OW,mT fun y a=>h y (by simp[a])]
theorem H6 {xs:List ak} {ps ns:List az} {id:Int} {k:Nat} {B F:List an} {A:List Int} (b:k=0→F=[]) (c:∀ t∈B,t.Ids.length=k) (d:∀ t∈F,t.Ids.length=k):(xN xs ps id k B F A).map (wI xs ps ns k)=jp xs ps ns id k B F A:=by
  unfold xN jp
  rw[List.map_append]
  by_cases hk:k=0
  · rw[if_pos hk,if_pos hk,b hk,wU (by simp[hk])]
    simp[gL]
  · rw[if_neg hk,if_neg hk,P0,P0]
    congr 1
    · refine mT fun t a=>?_
      rw[wU (c t a)];simp[gL]
    · exact mT fun t a=>GV (d t a) A
theorem uk (xs:List ak) (ps:List az) (row:List Int) (id:Int):(lI xs ps row id).length≤1:=by unfold lI;split<;>simp
theorem AH (xs:List ak) (ps:List az) (row:List Int):∀ (ids:List Int),(oT xs ps row ids).length≤ids.length
  | []=>by simp[oT]
  | v :: ids=>by
    have h1:=AH xs ps row ids
    have a:=uk xs ps row v
    unfold oT at h1 ⊢
    rw[n0,gk,gj];omega
theorem J2 {xs:List ak} {ps:List az} {id:Int} {k:Nat} {B F:List an} {A:List Int} (c:∀ t∈B,t.Ids.length=k) (d:∀ t∈F,t.Ids.length=k):∀ t∈xN xs ps id k B F A,t.Ids.length=k+1∧(okB xs ps t.Ids).2=true:=by
  have b:∀ (row:List Int) (v:Int),row.length=k→∀ t∈lI xs ps row v,t.Ids.length=k+1∧(okB xs ps t.Ids).2=true:=fun row v e t a=>by
    unfold lI at a
    split at a
    · simp only[List.mem_singleton] at a;subst a;exact⟨by simp[e],by assumption⟩
    · cases a
  intro t a
  unfold xN at a
  rcases gf.1 a with h | h
  · split at h
    · rename_i hk;exact b [] id (by simp[hk]) t h
    · obtain⟨u,hu,h⟩:=jf.1 h
      exact b _ _ (c u hu) t h
  · obtain⟨u,hu,h⟩:=jf.1 h
    unfold oT at h
    obtain⟨v,_,h⟩:=jf.1 h
    exact b _ _ (d u hu) t h
end Go.Proofs.YtedmfnmbjglmbaaGreat
