/- Plain laws, one after the other: PLNetwork. -/
import Derived.Test.YtedmfnmbjglmbaaGreatPLib
import Derived.Test.YtedmfnmbjglmbaaGreatWNetworkMod
import Derived.Test.YtedmfnmbjglmbaaGreatWNetworkPur
/-
  Plain laws of common loops, for the cores. No program.
-/
namespace Go.Proofs.YtedmfnmbjglmbaaGreat
open Eng
set_option linter.unusedVariables false
set_option linter.unusedSimpArgs false
theorem cg {α:Type} {xs a:List α} (h:xs.length+a.length≤4294967296):app xs a=some (xs++a):=by unfold app;rw[if_pos h]
theorem gR {α:Type} {a:List α} (h:a.length≤4294967296):app ([]:List α) a=some a:=by rw[cg (by simpa using h)];rfl
theorem xU {α:Type} (f:Nat→Int→Option Bool) (xs:List α) (e:xs.length≤4294967296) (p:α→Bool) (z:Bool) (i0:Nat)
    (b:∀ n (i:Nat) (x:α),i0≤i→idx xs (i:Int)=some x→x∈xs→decide ((i:Int) < (xs.length:Int))=true→IntKind.i64.wrap ((i:Int)+1)=((i+1:Nat):Int)→f (n+1) i=if p x then f n ((i+1:Nat):Int) else some false)
    (he:∀ n (i:Nat),decide ((i:Int) < (xs.length:Int))=false→f (n+1) i=some z) :
    ∀ (n i:Nat),i0≤i→i≤xs.length→xs.length - i < n→f n i=some ((xs.drop i).all p && z):=by
  intro n
  induction n with
  | zero=>intro i _ _ h;omega
  | succ n c=>
    intro i d g j
    by_cases a:i < xs.length
    · rw[hn a,hZ,b n i xs[i] d (ag a) (hB a) (decide_eq_true OY) (wr1 i OY),c (i+1) OY OY OY]
      cases p xs[i] <;> simp
    · rw[he n i (decide_eq_false OY),hy OY,K4,hI]
theorem yQ {α:Type} (f:Nat→Int→Option Int) (xs:List α) (d:xs.length≤4294967296) (p:α→Bool)
    (b:∀ n (i:Nat) (x:α),idx xs (i:Int)=some x→x∈xs→decide ((i:Int) < (xs.length:Int))=true→IntKind.i64.wrap ((i:Int)+1)=((i+1:Nat):Int)→f (n+1) i=if p x then some (i:Int) else f n ((i+1:Nat):Int))
    (he:∀ n (i:Nat),decide ((i:Int) < (xs.length:Int))=false→f (n+1) i=some (-1)) :
    ∀ (n i:Nat),i≤xs.length→xs.length - i < n→f n i=some (match (xs.drop i).findIdx? p with | some j=>((i+j:Nat):Int) | none=>-1):=by
  intro n
  induction n with
  | zero=>intro i _ h;omega
  | succ n c=>
    intro i e g
    by_cases a:i < xs.length
    · rw[hn a,List.findIdx?_cons,b n i xs[i] (ag a) (hB a) (decide_eq_true OY) (wr1 i OY),c (i+1) OY OY]
      cases p xs[i]
      · simp only[gf,if_false]
        cases (xs.drop (i+1)).findIdx? p with
        | none=>rfl
        | some j=>simp only[Cl];congr 2;omega
      · simp
    · rw[he n i (decide_eq_false OY),hy OY];rfl
theorem HK {α:Type} (xs:List α) (p:α→Bool):decide (0≤(match xs.findIdx? p with | some j=>((0+j:Nat):Int) | none=>-1))=xs.any p:=by
  cases h:xs.findIdx? p with
  | none=>
    rw[Pe] at h
    simp only[show ¬ (0:Int) ≤ -1 by omega,decide_false]
    symm;rw[List.any_eq_false];intro x a;simp[h x a]
  | some j=>
    simp only[hA,show (0:Int)≤(j:Int) by omega,decide_true]
    rw[K5] at h
    obtain⟨b,hp,_⟩:=h
    symm;rw[L2];exact⟨_,hB b,hp⟩
theorem mL (a b:Bool):(if a=true then some b else some false)=some (a && b):=by cases a <;> rfl
theorem orS (a b:Bool):(if a=true then some true else some b)=some (a || b):=by cases a <;> rfl
end Go.Proofs.YtedmfnmbjglmbaaGreat
/-
  Plain laws of loops over lists, one law for all. No program.
-/
namespace Go.Proofs.YtedmfnmbjglmbaaGreat
open Eng
set_option linter.unusedVariables false
set_option linter.unusedSimpArgs false
theorem lp {σ α β:Type} (xs:List α) (k:xs.length≤4294967296) (f:Nat→σ→Int→Option β) (G:List α→σ→Option β) (I:σ→List α→Prop)
    (e:∀ n s (i:Nat) (x:α) (t:List α),xs.drop i=x :: t→x∈xs→i < xs.length→idx xs (i:Int)=some x→decide ((i:Int) < (xs.length:Int))=true→IntKind.i64.wrap ((i:Int)+1)=((i+1:Nat):Int)→I s (x :: t) →
      (∀ a,I a t→f n a ((i+1:Nat):Int)=G t a)→f (n+1) s i=G (x :: t) s)
    (he:∀ n s (i:Nat),i=xs.length→decide ((i:Int) < (xs.length:Int))=false→I s []→f (n+1) s i=G [] s) :
    ∀ (n i:Nat) (s:σ),i≤xs.length→xs.length - i < n→I s (xs.drop i)→f n s i=G (xs.drop i) s:=by
  intro n
  induction n with
  | zero=>intro i s _ h;omega
  | succ n g=>
    intro i s l m b
    by_cases c:i < xs.length
    · have d:=hn c
      rw[d] at b ⊢
      exact e n s i _ _ d (hB c) c (ag c) (decide_eq_true OY) (wr1 i OY) b (fun a j=>g (i+1) a OY OY j)
    · have d:xs.drop i=[]:=hy OY
      rw[d] at b ⊢
      exact he n s i OY (decide_eq_false OY) b
theorem lp' {σ α β:Type} {N:Nat} (e:1099000000000≤N) (xs:List α) (b:xs.length≤4294967296) (f:Nat→σ→Int→Option β) (G:List α→σ→Option β) (I:σ→List α→Prop) (s:σ) (c:I s xs)
    (d:∀ n s (i:Nat) (x:α) (t:List α),xs.drop i=x :: t→x∈xs→i < xs.length→idx xs (i:Int)=some x→decide ((i:Int) < (xs.length:Int))=true→IntKind.i64.wrap ((i:Int)+1)=((i+1:Nat):Int)→I s (x :: t) →
      (∀ a,I a t→f n a ((i+1:Nat):Int)=G t a)→f (n+1) s i=G (x :: t) s)
    (he:∀ n s (i:Nat),i=xs.length→decide ((i:Int) < (xs.length:Int))=false→I s []→f (n+1) s i=G [] s):f N s 0=G xs s:=by
  have:=lp xs b f G I d he N 0 s OY OY (by simpa using c)
  simpa using this
theorem lp0 {α β:Type} {N:Nat} (b:1099000000000≤N) (xs:List α) (c:xs.length≤4294967296) (f:Nat→Int→Option β) (G:List α→Option β)
    (d:∀ n (i:Nat) (x:α) (t:List α),xs.drop i=x :: t→x∈xs→i < xs.length→idx xs (i:Int)=some x→decide ((i:Int) < (xs.length:Int))=true→IntKind.i64.wrap ((i:Int)+1)=((i+1:Nat):Int) →
      f n ((i+1:Nat):Int)=G t→f (n+1) i=G (x :: t))
    (he:∀ n (i:Nat),i=xs.length→decide ((i:Int) < (xs.length:Int))=false→f (n+1) i=G []):f N 0=G xs:=by
  have:=lp' (σ:=Unit) b xs c (fun n _ i=>f n i) (fun t _=>G t) (fun _ _=>True) () trivial (fun n _ i x t h1 a e g h j _ k=>d n i x t h1 a e g h j (k () trivial)) (fun n _ i h1 a _=>he n i h1 a)
  simpa using this
theorem Of (a b:Bool):(if (!a)=true then some true else some b)=some (!a || b):=by cases a <;> rfl
theorem MB (i:Int) (m:Nat) (h:m < 4611686018427387904):0≤yZ .i64 i (m:Int)∧yZ .i64 i (m:Int)≤(m:Int):=by
  unfold yZ
  have h1:((BitVec.ofInt IntKind.i64.bits i) &&& (BitVec.ofInt IntKind.i64.bits (m:Int))).toNat≤m:=by
    rw[BitVec.toNat_and]
    have a:(BitVec.ofInt IntKind.i64.bits (m:Int)).toNat=m:=by
      rw[BitVec.toNat_ofInt]
      have:((2 ^ IntKind.i64.bits:Nat):Int)=18446744073709551616:=by decide
      rw[this,Int.emod_eq_of_lt OY OY]
      simp
    rw[a];exact Nat.and_le_right
  rw[wr OY OY]
  omega
theorem HH (i:Int):0≤yZ .i64 i 255∧yZ .i64 i 255≤255:=MB i 255 OY
def GC (b:List Int) (c:ab):Prop:=c.b=b∧0≤c.i∧c.i≤(b.length:Int)
theorem GC.re {b:List Int} {c d:ab} (h:GC b c) (a:d.b=b):GC b (⟨d.b,c.i,c.h⟩:ab):=⟨a,h.2⟩
theorem MI {N:Nat} (e:1099000000000≤N) (b:List Int) (f:b.length≤1048576):∃ c,rW N b=some c∧GC b c:=by
  unfold rW
  have:∀ (n i:Nat) (h:Int),i≤b.length→b.length - i < n→∃ c,jH N b n h i=some c∧GC b c:=by
    intro n
    induction n with
    | zero=>intro i h _ g;omega
    | succ n a=>
      intro i h j k
      simp only[jH]
      by_cases d:i < b.length
      · have c1:decide ((i:Int) < (b.length:Int))=true:=decide_eq_true OY
        simp only[c1,if_true,gb,ag d,wr1 i OY]
        split
        · exact a (i+1) _ OY OY
        · exact⟨_,rfl,rfl,OZ,OZ⟩
      · have c1:decide ((i:Int) < (b.length:Int))=false:=decide_eq_false OY
        simp only[c1,gf,if_false,gb]
        exact⟨_,rfl,rfl,OZ,OZ⟩
  exact this N 0 _ OY OY
theorem xT {N:Nat} (b:List Int) (h:b.length≤1048576) (c:ab) (g:GC b c):∃ v d,kK N c=some (v,d)∧GC b d∧0≤v∧v≤255:=by
  obtain⟨rfl,e,h1⟩:=g
  unfold kK
  by_cases a:c.i < (c.b.length:Int)
  · obtain⟨i,f⟩:∃ i:Nat,c.i=(i:Int):=⟨c.i.toNat,OY⟩
    have c1:decide (c.i < (c.b.length:Int))=true:=decide_eq_true a
    rw[f] at e h1 a ⊢
    rw[f] at c1
    simp only[c1,if_true,ag (show i < c.b.length by omega),gb,wr1 i OY]
    exact⟨_,_,rfl,⟨rfl,by simp;omega,by simp;omega⟩,HH _⟩
  · have c1:decide (c.i < (c.b.length:Int))=false:=decide_eq_false a
    simp only[c1,gf,if_false]
    exact⟨_,_,rfl,⟨rfl,e,h1⟩,HH _⟩
theorem Iy {v n:Int} (a:0≤v) (b:0 < n):∃ r,H8 v n=some r∧0≤r∧r < n:=by
  unfold H8
  rw[if_neg OY,Int.tmod_eq_emod_of_nonneg a]
  exact⟨_,rfl,Int.emod_nonneg _ OY,Int.emod_lt_of_pos _ b⟩
theorem CV {N:Nat} (b:List Int) (f:b.length≤1048576) (c:ab) (a:GC b c) (n:Int):∃ v d,cK N c n=some (v,d)∧GC b d∧0≤v∧(0 < n→v < n)∧(n≤0→v=0):=by
  unfold cK
  by_cases l:n≤0
  · simp only[l,decide_true,if_true]
    exact⟨_,_,rfl,a,OY,OY,fun _=>rfl⟩
  · simp only[l,decide_false,gf,if_false]
    by_cases h1:n≤256
    · simp only[h1,decide_true,if_true]
      obtain⟨v,d,e,g,m,a2⟩:=xT (N:=N) b f c a
      obtain⟨r,i,j,k⟩:=Iy m (show 0 < n by omega)
      simp only[e,gb,i]
      exact⟨_,_,rfl,g.re a.1 |> fun _=>⟨a.1,g.2⟩,j,fun _=>k,fun h=>h.elim⟩
    · simp only[h1,decide_false,gf,if_false]
      obtain⟨v1,d1,o,g1,m,s⟩:=xT (N:=N) b f c a
      simp only[o,gb]
      obtain⟨v2,d2,p,g2,a2,t⟩:=xT (N:=N) b f ⟨c.b,d1.i,d1.h⟩ ⟨a.1,g1.2⟩
      simp only[p,gb]
      obtain⟨v3,d3,q,g3,a3,u⟩:=xT (N:=N) b f ⟨c.b,d2.i,d2.h⟩ ⟨a.1,g2.2⟩
      simp only[q,gb]
      rw[wr (n:=v1*65536) OY OY,wr (n:=v2*256) OY OY,wr (n:=v1*65536+v2*256) OY OY,wr (n:=v1*65536+v2*256+v3) OY OY]
      obtain⟨r,i,j,k⟩:=Iy (show 0≤v1*65536+v2*256+v3 by omega) (show 0 < n by omega)
      simp only[i,gb]
      exact⟨_,_,rfl,⟨a.1,g3.2⟩,j,fun _=>k,fun h=>h.elim⟩
theorem wrm {s:Int} (h:0 < s) (a:s≤4611686018427387904):IntKind.i64.wrap (s - 1)=s - 1:=wr OY OY
def Dr {α:Type} (b:List Int) (Q:α→Prop) (o:Option (α × ab)):Prop:=∃ v d,o=some (v,d)∧GC b d∧Q v
theorem Dr.bind {α β:Type} {b:List Int} {Q:α→Prop} {R:β→Prop} {o:Option (α × ab)} {f:α × ab→Option (β × ab)} (h:Dr b Q o) (k:∀ v d,GC b d→Q v→Dr b R (f (v,d))):Dr b R (o.bind f):=by
  obtain⟨v,d,rfl,g,q⟩:=h;exact k v d g q
theorem Dr.bindO {a β:Type} {b:List Int} {R:β→Prop} {x:a} {o:Option a} {f:a→Option (β × ab)} (h:o=some x) (k:Dr b R (f x)):Dr b R (o.bind f):=by
  rw[h];exact k
theorem Dr.ret {α:Type} {b:List Int} {Q:α→Prop} {v:α} {c:ab} (g:GC b c) (q:Q v):Dr b Q (some (v,c)):=⟨v,c,rfl,g,q⟩
theorem Dr.ite {α:Type} {b:List Int} {Q:α→Prop} {x y:Option (α × ab)} {p:Bool} (h1:p=true→Dr b Q x) (a:p=false→Dr b Q y):Dr b Q (if p=true then x else y):=by
  cases p with
  | true=>exact h1 rfl
  | false=>exact a rfl
theorem GC.at {b:List Int} {c d:ab} (g:GC b d) (h:c.b=b):GC b (⟨c.b,d.i,d.h⟩:ab):=⟨h,g.2⟩
theorem mO {N:Nat} {b:List Int} (a:b.length≤1048576) {c:ab} (g:GC b c) (n:Int) (f:0 < n):Dr b (fun v=>0≤v∧v < n) (cK N c n):=by
  obtain⟨v,d,e,g,h1,h,-⟩:=CV (N:=N) b a c g n
  exact⟨v,d,e,g,h1,h f⟩
theorem Ck {N:Nat} {b:List Int} (a:b.length≤1048576) {c:ab} (g:GC b c) (n:Int):Dr b (fun v=>0≤v∧(0 < n→v < n)) (cK N c n):=by
  obtain⟨v,d,e,g,h1,f,-⟩:=CV (N:=N) b a c g n
  exact⟨v,d,e,g,h1,f⟩
theorem tP {α:Type} {xs a:List α} (h:xs.length≤4194304) (b:a.length≤4194304):app xs a=some (xs++a):=cg OY
theorem qj {α:Type} {P:α→Prop} {xs:List α} {x:α} (h:∀ a∈xs,P a) (b:P x):∀ a∈xs++[x],P a:=fun a c=>by
  rcases gh.1 c with h1 | h1
  · exact h a h1
  · simp at h1;rw[h1];exact b
theorem tO {N:Nat} {b:List Int} (a:b.length≤1048576) {c:ab} (g:GC b c) (n:Int):Dr b (fun _=>True) (gB N c n):=by
  unfold gB
  exact (Ck a g n).bind fun v d gd _=>.ret (gd.at g.1) trivial
theorem wn {N:Nat} {b:List Int} (a:b.length≤1048576) {c:ab} (g:GC b c) (l:List ByteArray) (h:0 < l.length):Dr b (fun s=>s∈l) (ik N c l):=by
  unfold ik
  refine (mO a g (l.length:Int) OY).bind fun v d gd q=>?_
  obtain⟨j,rfl⟩:∃ j:Nat,v=(j:Int):=⟨v.toNat,OY⟩
  exact .bindO (ag (show j < l.length by omega)) (.ret (gd.at g.1) (hB _))
def vV (v:bn):Prop:=(∃ n:Int,1≤n∧n≤3∧v=⟨1,n,⟨#[]⟩⟩)∨∃ s∈([⟨#[97]⟩,⟨#[98]⟩]:List ByteArray),v=⟨2,0,s⟩
theorem BP {N:Nat} {b:List Int} (a:b.length≤1048576) {c:ab} (g:GC b c):Dr b vV (kP N c):=by
  unfold kP
  refine (tO a g 2).bind fun v d gd _=>.ite (fun _=>?_) fun _=>?_
  · exact (mO a (gd.at g.1) 3 OY).bind fun w e ge q=>.ret (ge.at g.1) (.inl ⟨_,by dsimp only;rw[wr OY OY];omega,by dsimp only;rw[wr OY OY];omega,rfl⟩)
  · exact (wn a (gd.at g.1) _ (by decide)).bind fun w e ge q=>.ret (ge.at g.1) (.inr ⟨w,q,rfl⟩)
theorem zf {v:bn} (h:vV v):v.S.size≤16:=by
  rcases h with ⟨n,_,_,rfl⟩ | ⟨s,a,rfl⟩
  · show (0:Nat)≤16;omega
  · exact (show ∀ s∈([⟨#[97]⟩,⟨#[98]⟩]:List ByteArray),s.size≤16 by decide) s a
def tY (a:bZ):Prop:=a.S.size≤16∧a.V.S.size≤16
def Hd (p:az):Prop:=p.Kind.size≤16∧p.Args.length≤16∧∀ a∈p.Args,tY a
def Cu (a:bZ):Prop:=a=⟨3,⟨#[]⟩,⟨0,0,⟨#[]⟩⟩⟩∨(∃ v,vV v∧a=⟨2,⟨#[]⟩,v⟩)∨∃ s∈([⟨#[88]⟩,⟨#[89]⟩,⟨#[90]⟩,⟨#[88]⟩]:List ByteArray),a=⟨1,s,⟨0,0,⟨#[]⟩⟩⟩
theorem Ct {a:bZ} (h:Cu a):tY a:=by
  rcases h with rfl | ⟨v,b,rfl⟩ | ⟨s,c,rfl⟩
  · exact⟨ks _,ks _⟩
  · exact⟨ks _,zf b⟩
  · exact⟨(show ∀ s∈([⟨#[88]⟩,⟨#[89]⟩,⟨#[90]⟩,⟨#[88]⟩]:List ByteArray),s.size≤16 by decide) s c,ks _⟩
theorem N7 {N:Nat} {b:List Int} (a:b.length≤1048576) {c:ab} (g:GC b c):Dr b Cu (sf N c):=by
  unfold sf
  refine (mO a g 6 OY).bind fun v d gd _=>.ite (fun _=>.ret (gd.at g.1) (.inl rfl)) fun _=>.ite (fun _=>?_) fun _=>?_
  · exact (BP a (gd.at g.1)).bind fun w e ge q=>.bindO rfl (.ret (ge.at g.1) (.inr (.inl ⟨w,q,rfl⟩)))
  · exact (wn a (gd.at g.1) _ (by decide)).bind fun w e ge q=>.bindO rfl (.ret (ge.at g.1) (.inr (.inr ⟨w,q,rfl⟩)))
def ri (n:Bool) (p:az):Prop:=p.Not=n∧p.Kind∈([⟨#[111,114,100,101,114]⟩,⟨#[112,97,105,100]⟩,⟨#[105,116,101,109]⟩,⟨#[111,114,100,101,114]⟩]:List ByteArray)∧p.Args.length≤2∧∀ a∈p.Args,Cu a
theorem HG {n:Bool} {p:az} (h:ri n p):Hd p:=by
  obtain⟨_,h1,d,b⟩:=h
  exact⟨(show ∀ s∈([⟨#[111,114,100,101,114]⟩,⟨#[112,97,105,100]⟩,⟨#[105,116,101,109]⟩,⟨#[111,114,100,101,114]⟩]:List ByteArray),s.size≤16 by decide) _ h1,OY,fun a c=>Ct (b a c)⟩
theorem Lc {N:Nat} (t:1099000000000≤N) {b:List Int} (l:b.length≤1048576) {c:ab} (g:GC b c) (f:Bool):Dr b (ri f) (nL N c f):=by
  unfold nL
  refine (wn l g _ (by decide)).bind fun k d gd hk=>?_
  have lp:∀ (m:Nat),m≤2→∀ (n i:Nat) (s:List bZ) (x h:Int),i≤m→m - i < n→s.length=i→(∀ a∈s,Cu a)→GC b ⟨c.b,x,h⟩→Dr b (ri f) (kg N c f (k,d) (m:Int) n s (i:Int) x h):=by
    intro m hm n
    induction n with
    | zero=>intro i _ _ _ _ h;omega
    | succ n r=>
      intro i s x h u v w o j
      simp only[kg]
      refine .ite (fun p=>?_) (fun y=>.ret j ⟨rfl,hk,by dsimp only;omega,o⟩)
      have p:=of_decide_eq_true p
      refine (N7 l j).bind fun a e ge q=>.bindO (tP OY OZ) ?_
      rw[wr1 i OY]
      exact r (i+1) _ _ _ OY OY (by simp;omega) (qj o q) (ge.at (c:=⟨c.b,x,h⟩) j.1)
  exact .ite (fun _=>lp 2 OY N 0 [] _ _ OY OY rfl OZ (gd.at g.1)) (fun _=>lp 1 OY N 0 [] _ _ OY OY rfl OZ (gd.at g.1))
def I5 (c:cX):Prop:=tY c.L∧tY c.R
def kQ (a:bZ):Prop:=(∃ v,vV v∧a=⟨2,⟨#[]⟩,v⟩)∨∃ s∈([⟨#[88]⟩,⟨#[89]⟩,⟨#[90]⟩,⟨#[88]⟩]:List ByteArray),a=⟨1,s,⟨0,0,⟨#[]⟩⟩⟩
theorem BO {N:Nat} {b:List Int} (a:b.length≤1048576) {c:ab} (g:GC b c):Dr b kQ (mE N c):=by
  unfold mE
  refine (tO a g 3).bind fun v d gd _=>.ite (fun _=>?_) fun _=>?_
  · exact (BP a (gd.at g.1)).bind fun w e ge q=>.bindO rfl (.ret (ge.at g.1) (.inl ⟨w,q,rfl⟩))
  · exact (wn a (gd.at g.1) _ (by decide)).bind fun w e ge q=>.bindO rfl (.ret (ge.at g.1) (.inr ⟨w,(show ∀ s∈([⟨#[88]⟩,⟨#[89]⟩]:List ByteArray),s∈([⟨#[88]⟩,⟨#[89]⟩,⟨#[90]⟩,⟨#[88]⟩]:List ByteArray) by simp) w q,rfl⟩))
def Mi (c:cX):Prop:=1≤c.Op∧c.Op≤3∧kQ c.L∧kQ c.R
theorem LR {N:Nat} {b:List Int} (a:b.length≤1048576) {c:ab} (g:GC b c):Dr b Mi (qy N c):=by
  unfold qy
  refine (mO a g 3 OY).bind fun v d gd q=>(BO a (gd.at g.1)).bind fun l e ge h=>(BO a (ge.at g.1)).bind fun r f i qr=>.ret (i.at g.1) ⟨?_,?_,h,qr⟩
  · dsimp only;rw[wr OY OY];omega
  · dsimp only;rw[wr OY OY];omega
theorem Hk {N:Nat} {b:List Int} (a:b.length≤1048576) {c:ab} (g:GC b c) (l:List Int) (h:0 < l.length):Dr b (fun s=>s∈l) (nC N c l):=by
  unfold nC
  refine (mO a g (l.length:Int) OY).bind fun v d gd q=>?_
  obtain⟨j,rfl⟩:∃ j:Nat,v=(j:Int):=⟨v.toNat,OY⟩
  exact .bindO (ag (show j < l.length by omega)) (.ret (gd.at g.1) (hB _))
def Ec (e:d5):Prop:=e.Op.size≤16∧tY e.L∧tY e.R
def Hb (a:ei):Prop:=a.Name.size≤16∧a.Args.length≤16∧(∀ e∈a.Args,Ec e)∧a.Undo.size≤16
def EA:bZ:=⟨0,⟨#[]⟩,⟨0,0,⟨#[]⟩⟩⟩
def wg (T:bZ→Prop) (e:d5):Prop:=T e.L∧((e.Op=⟨#[]⟩∧e.R=EA)∨e.Op∈([⟨#[43]⟩,⟨#[45]⟩]:List ByteArray)∧T e.R)
theorem IQ {T:bZ→Prop} (b:∀ a,T a→tY a) {e:d5} (h:wg T e):Ec e:=by
  obtain⟨h1,⟨c,d⟩ | ⟨c,d⟩⟩:=h
  · exact⟨by rw[c];exact ks _,b _ h1,by rw[d];exact⟨ks _,ks _⟩⟩
  · exact⟨(show ∀ s∈([⟨#[43]⟩,⟨#[45]⟩]:List ByteArray),s.size≤16 by decide) _ c,b _ h1,b _ d⟩
theorem LG {N:Nat} {b:List Int} (a:b.length≤1048576) {c:ab} (g:GC b c):Dr b (wg kQ) (qP N c):=by
  unfold qP
  refine (BO a g).bind fun l d gd h=>(tO a (gd.at g.1) 4).bind fun v e ge _=>.ite (fun _=>?_) fun _=>?_
  · exact (wn a (ge.at g.1) _ (by decide)).bind fun o f i j=>(BO a (i.at g.1)).bind fun r k m qr=>.ret (m.at g.1) ⟨h,.inr ⟨j,qr⟩⟩
  · exact .ret (ge.at g.1) ⟨h,.inl ⟨rfl,rfl⟩⟩
def vK (T:bZ→Prop) (pos:Int) (a:ei):Prop:=a.Args.length≤2∧(∀ e∈a.Args,wg T e) ∧
  ((a.Kind=2∧a.Name=⟨#[]⟩∧a.Args=[]∧0≤a.N∧(0 < pos→a.N < pos)∧a.Undo=⟨#[]⟩) ∨
   ((a.Kind=5∨a.Kind=6)∧a.Name=⟨#[]⟩∧a.Args=[]∧a.N=0∧a.Undo=⟨#[]⟩) ∨
   ((a.Kind=1∨a.Kind=3∨a.Kind=4)∧a.Name∈([⟨#[111,114,100,101,114]⟩,⟨#[112,97,105,100]⟩,⟨#[105,116,101,109]⟩,⟨#[115,104,105,112]⟩,⟨#[99,104,97,114,103,101]⟩]:List ByteArray) ∧
     (a.N=0∨a.Kind=4∧a.N∈([0,1,5,100000]:List Int))∧(a.Undo=⟨#[]⟩∨a.Kind=3∧a.Undo∈([⟨#[114,101,102,117,110,100]⟩,⟨#[99,97,110,99,101,108]⟩]:List ByteArray))))
theorem JK {T:bZ→Prop} (c:∀ a,T a→tY a) {pos:Int} {a:ei} (h:vK T pos a):Hb a:=by
  obtain⟨h1,d,b⟩:=h
  refine⟨?_,OY,fun e he=>IQ c (d e he),?_⟩
  · rcases b with h | h | h
    · rw[h.2.1];exact ks _
    · rw[h.2.1];exact ks _
    · exact (show ∀ s∈([⟨#[111,114,100,101,114]⟩,⟨#[112,97,105,100]⟩,⟨#[105,116,101,109]⟩,⟨#[115,104,105,112]⟩,⟨#[99,104,97,114,103,101]⟩]:List ByteArray),s.size≤16 by decide) _ h.2.1
  · rcases b with h | h | h
    · rw[h.2.2.2.2.2];exact ks _
    · rw[h.2.2.2.2];exact ks _
    · rcases h.2.2.2 with h | h
      · rw[h];exact ks _
      · exact (show ∀ s∈([⟨#[114,101,102,117,110,100]⟩,⟨#[99,97,110,99,101,108]⟩]:List ByteArray),s.size≤16 by decide) _ h.2
theorem NA {N:Nat} (O:1099000000000≤N) {b:List Int} (j:b.length≤1048576) {c:ab} (g:GC b c) (pos:Int):Dr b (vK kQ pos) (qt N c pos):=by
  unfold qt
  refine (Hk j g _ (by decide)).bind fun k d gd hk=>?_
  dsimp only
  by_cases p:k=2
  · refine .ite (fun _=>?_) (fun h=>absurd p (of_decide_eq_false h))
    exact (Ck j (gd.at g.1) pos).bind fun v e ge q=>.ret (ge.at g.1) ⟨OZ,OZ,.inl ⟨p,rfl,rfl,q.1,q.2,rfl⟩⟩
  refine .ite (fun h=>absurd (of_decide_eq_true h) p) (fun _=>?_)
  have z:∀ (nm:ByteArray) (d0:ab) (l:List d5) (n:Int) (q:Bool) (x h:Int),GC b ⟨c.b,x,h⟩→(q=true→k=3) →
      (∀ u,(u=(⟨#[]⟩:ByteArray)∨k=3∧u∈([⟨#[114,101,102,117,110,100]⟩,⟨#[99,97,110,99,101,108]⟩]:List ByteArray))→vK kQ pos ⟨k,nm,l,n,u⟩)→Dr b (vK kQ pos) (iZ N c (k,d) (nm,d0) l n q x h):=by
    intro nm d0 l n q x h f F hu
    unfold iZ
    refine .ite (fun G=>?_) (fun _=>.ret f (hu _ (.inl rfl)))
    exact (wn j f _ (by decide)).bind fun u e ge H=>.ret (ge.at (c:=⟨c.b,x,h⟩) f.1) (hu _ (.inr ⟨F G,H⟩))
  have A:∀ (nm:ByteArray) (d0:ab) (l:List d5) (n:Int) (x h:Int),GC b ⟨c.b,x,h⟩ →
      (∀ u,(u=(⟨#[]⟩:ByteArray)∨k=3∧u∈([⟨#[114,101,102,117,110,100]⟩,⟨#[99,97,110,99,101,108]⟩]:List ByteArray))→vK kQ pos ⟨k,nm,l,n,u⟩)→Dr b (vK kQ pos) (jV N c (k,d) (nm,d0) l x h n):=by
    intro nm d0 l n x h f hu
    unfold jV
    refine .ite (fun I=>?_) (fun _=>z _ _ _ _ _ _ _ f (fun h=>by simp at h) hu)
    exact (tO j f 2).bind fun u e ge _=>z _ _ _ _ _ _ _ (ge.at (c:=⟨c.b,x,h⟩) f.1) (fun _=>of_decide_eq_true I) hu
  have lp:∀ (nm:ByteArray) (d0:ab),nm∈([⟨#[111,114,100,101,114]⟩,⟨#[112,97,105,100]⟩,⟨#[105,116,101,109]⟩,⟨#[115,104,105,112]⟩,⟨#[99,104,97,114,103,101]⟩]:List ByteArray)→(k=1∨k=3∨k=4) →
      ∀ (m:Nat),m≤2→∀ (n i:Nat) (s:List d5) (x h:Int),i≤m→m - i < n→s.length=i→(∀ a∈s,wg kQ a)→GC b ⟨c.b,x,h⟩→Dr b (vK kQ pos) (kf N c (k,d) (nm,d0) (m:Int) n s (i:Int) x h):=by
    intro nm d0 o B m hm n
    induction n with
    | zero=>intro i _ _ _ _ h;omega
    | succ n K=>
      intro i s x h P Q R r f
      simp only[kf]
      refine .ite (fun C=>?_) (fun S=>.ite (fun t=>?_) (fun _=>?_))
      · have C:=of_decide_eq_true C
        refine (LG j f).bind fun a e ge q=>.bindO (tP OY OZ) ?_
        rw[wr1 i OY]
        exact K (i+1) _ _ _ OY OY (by simp;omega) (qj r q) (ge.at (c:=⟨c.b,x,h⟩) f.1)
      · have t:k=4:=of_decide_eq_true t
        exact (Hk j f _ (by decide)).bind fun v e ge q=>A _ _ _ _ _ _ (ge.at (c:=⟨c.b,x,h⟩) f.1) fun u hu=>⟨by dsimp only;omega,r,.inr (.inr ⟨B,o,.inr ⟨t,q⟩,hu⟩)⟩
      · exact A _ _ _ _ _ _ f fun u hu=>⟨by dsimp only;omega,r,.inr (.inr ⟨B,o,.inl rfl,hu⟩)⟩
  have T:Dr b (vK kQ pos) (dW N c (k,d) true)→k=5∨k=6→Dr b (vK kQ pos) (dW N c (k,d) true):=fun h _=>h
  have D:k=5∨k=6→Dr b (vK kQ pos) (dW N c (k,d) true):=by
    intro L
    unfold dW
    simp only[if_true]
    exact .ret (gd.at g.1) ⟨OZ,OZ,.inr (.inl ⟨L,rfl,rfl,rfl,rfl⟩)⟩
  have M:k=1∨k=3∨k=4→Dr b (vK kQ pos) (dW N c (k,d) false):=by
    intro E
    unfold dW
    simp only[gf,if_false]
    refine (wn j (gd.at g.1) _ (by decide)).bind fun nm e ge o=>?_
    unfold jU
    exact .ite (fun _=>lp nm e o E 2 OY N 0 [] _ _ OY OY rfl OZ (ge.at g.1)) (fun _=>lp nm e o E 1 OY N 0 [] _ _ OY OY rfl OZ (ge.at g.1))
  have U:k=1∨k=3∨k=4∨k=5∨k=6:=by
    simp at hk;omega
  by_cases w:k=5
  · rw[decide_eq_true w];simp only[if_true];exact D (.inl w)
  · rw[decide_eq_false w];simp only[gf,if_false]
    by_cases y:k=6
    · rw[decide_eq_true y];exact D (.inr y)
    · rw[decide_eq_false y];exact M OY
instance Og (v:ByteArray) (xs:List ByteArray):Decidable (v∈xs):=@List.instDecidableMemOfLawfulBEq _ instBEqOfDecidableEq _ v xs
theorem Lj {N:Nat} (b:1099000000000≤N) (xs:List ByteArray) (v:ByteArray) (c:xs.length≤4294967296):nH N xs v=some (decide (v∈xs)):=by
  unfold nH
  refine lp0 b xs c _ (fun t=>some (decide (v∈t))) (fun n i x t h1 a l d f g j=>?_) (fun n i h1 a=>?_)
  · simp only[jF,f,if_true,d,gb,g,j,lG]
    by_cases h:x=v
    · simp[h]
    · have k : ¬ v=x:=fun e=>h e.symm
      simp[h,k]
  · simp only[jF,a,gf,if_false];simp
def dR (s:List ByteArray) (v:ByteArray):List ByteArray:=if v∈s then s else s++[v]
theorem wh (s:List ByteArray) (v:ByteArray):(dR s v).length≤s.length+1:=by unfold dR;split <;> simp
theorem Ho {s:List ByteArray} {v x:ByteArray}:x∈dR s v↔x∈s∨x=v:=by
  unfold dR;split
  · rename_i h
    constructor
    · exact .inl
    · rintro (a | rfl)
      · exact a
      · exact h
  · simp
theorem rX {x:ByteArray}:∀ {vs s:List ByteArray},x∈vs.foldl dR s↔x∈s∨x∈vs
  | [],s=>by simp
  | v :: vs,s=>by rw[rv,rX,Ho,hK,or_assoc]
theorem De {s:List ByteArray} {v:ByteArray} (h:v∈s):dR s v=s:=by unfold dR;rw[if_pos h]
theorem ml:∀ (vs s:List ByteArray),(vs.foldl dR s).length≤s.length+vs.length
  | [],s=>by simp
  | v :: vs,s=>by have:=ml vs (dR s v);have:=wh s v;simp only[rv,gj];omega
theorem DS (s u:List ByteArray) (v:ByteArray):(dR u v).foldl dR s=dR (u.foldl dR s) v:=by
  by_cases h:v∈u
  · rw[De h,De (rX.2 (.inr h))]
  · have:dR u v=u++[v]:=by unfold dR;rw[if_neg h]
    rw[this,u0];rfl
theorem xC:∀ (vs u s:List ByteArray),(vs.foldl dR u).foldl dR s=vs.foldl dR (u.foldl dR s)
  | [],u,s=>rfl
  | v :: vs,u,s=>by rw[rv,xC vs (dR u v) s,DS,rv]
theorem CY (vs s:List ByteArray):(vs.foldl dR []).foldl dR s=vs.foldl dR s:=xC vs [] s
theorem DT {B:Nat} {vs s:List ByteArray} (h:∀ x∈vs,x.size≤B) (a:∀ x∈s,x.size≤B):∀ x∈vs.foldl dR s,x.size≤B:=fun x b=>(rX.1 b).elim (a x) (h x)
def dm:List bZ→List ByteArray
  | []=>[]
  | a :: t=>if a.K=1 then a.S :: dm t else dm t
theorem jB:∀ (l:List bZ),(dm l).length≤l.length
  | []=>by simp[dm]
  | a :: t=>by have:=jB t;unfold dm;split <;> simp <;> omega
theorem ox {x:ByteArray}:∀ {l:List bZ},x∈dm l↔∃ a∈l,a.K=1∧a.S=x
  | []=>by simp[dm]
  | a :: t=>by
    unfold dm
    split
    · rename_i h;simp[ox,h,eq_comm]
    · rename_i h;simp[ox,h]
theorem Mv {N:Nat} (a:1099000000000≤N) (p:az) (j:p.Args.length≤1048576):qi N p=some ((dm p.Args).foldl dR []):=by
  unfold qi
  refine lp' a p.Args OY (hP N p) (fun t s=>some ((dm t).foldl dR s)) (fun s t=>s.length+t.length≤4294967290) [] (by simp;omega) (fun n s i x t h1 b k e f g c d=>?_) (fun n s i h1 b c=>?_)
  · simp only[gj] at c
    simp only[hP,f,if_true,e,gb,g,dm,Lj a s x.S OY]
    by_cases h:x.K=1
    · simp only[h,decide_true,if_true,gb,rv]
      have:=d (dR s x.S) (by have:=wh s x.S;omega)
      unfold dR at this ⊢
      by_cases hm:x.S∈s
      · simp only[hm,if_true] at this
        simpa[hm] using this
      · simp only[hm,if_false] at this
        simp only[hm,decide_false,hG,if_true,cg (show s.length+[x.S].length≤4294967296 by simp;omega),gb,if_false]
        exact this
    · simp only[h,decide_false,gf,if_false,gb]
      exact d _ OY
  · simp only[hP,b,gf,if_false];rfl
def dp:List az→List ByteArray
  | []=>[]
  | p :: t=>if p.Not then dp t else dm p.Args++dp t
def l6 (l:List az):Nat:=(l.map fun p=>p.Args.length).sum
theorem sF:∀ (l:List az),(dp l).length≤l6 l
  | []=>by simp[dp,l6]
  | p :: t=>by
    have h1:=sF t
    have b:=jB p.Args
    have a:l6 (p :: t)=p.Args.length+l6 t:=by simp[l6]
    rw[a]
    unfold dp
    split
    · omega
    · rw[gk];omega
theorem AP {N:Nat} (b:1099000000000≤N) (r:ah) (A:r.Pats.length≤1048576) (B:l6 r.Pats≤1048576) (hp:∀ p∈r.Pats,p.Args.length≤1048576):jC N r=some ((dp r.Pats).foldl dR []):=by
  unfold jC
  refine lp' b r.Pats OY (dy N r) (fun t s=>some ((dp t).foldl dR s)) (fun s t=>s.length+l6 t≤4294967290) [] (by simp;omega) (fun n s i x t h1 c C d k g h j=>?_) (fun n s i h1 c h=>?_)
  · have D:s.length+(x.Args.length+l6 t)≤4294967290:=by simpa[l6] using h
    have l:=hp x c
    simp only[dy,k,if_true,d,gb,Mv b x l,dp]
    have o:=ml (dm x.Args) []
    have E:=jB x.Args
    simp only[gx,hA] at o
    have key:dC N r i (dy N r n) ((dm x.Args).foldl dR []) N s 0=if x.Not then some ((dp t).foldl dR s) else some ((dp t).foldl dR (((dm x.Args).foldl dR []).foldl dR s)):=by
      cases e:x.Not with
      | true=>
        obtain⟨m,rfl⟩:∃ m,N=m+1:=⟨N - 1,OY⟩
        have q:=j s OY
        simp only[dC,d,gb,e,hC,g,q]
        split <;> rfl
      | false=>
        refine lp' b ((dm x.Args).foldl dR []) OY (dC N r i (dy N r n) ((dm x.Args).foldl dR [])) (fun u s=>some ((dp t).foldl dR (u.foldl dR s))) (fun s u=>s.length+u.length+l6 t≤4294967290) s OY (fun v a w y u g1 g2 g3 g4 g5 g6 f z=>?_) (fun v a w g1 g2 f=>?_)
        · simp only[gj] at f
          simp only[dC,g5,if_true,d,gb,e,hG,g4,Lj b a y OY,rv,g6]
          have:=z (dR a y) (by have:=wh a y;omega)
          unfold dR at this ⊢
          by_cases hm:y∈a
          · simp only[hm,if_true] at this
            simpa[hm] using this
          · simp only[hm,if_false] at this
            simp only[hm,decide_false,hG,if_true,cg (show a.length+[y].length≤4294967296 by simp;omega),gb,if_false]
            exact this
        · simp only[dC,g2,gf,if_false,gb,g]
          exact j a (by simp at f;omega)
    rw[show (dC N r i (dy N r n) ((dm x.Args).foldl dR []) N s 0)=_ from key]
    cases e:x.Not with
    | true=>simp
    | false=>simp[u0,CY]
  · simp only[dy,c,gf,if_false];rfl
def jh (r:ah):List ByteArray:=(dp r.Pats).foldl dR []
theorem Aq {r:ah} (h:l6 r.Pats≤1048576):(jh r).length≤1048576:=by
  have h1:=ml (dp r.Pats) []
  have a:=sF r.Pats
  unfold jh;simp at h1;omega
def ac:List az→Nat
  | []=>0
  | p :: t=>if p.Not then ac t else ac t+1
theorem dv:∀ (l:List az),ac l≤l.length
  | []=>by simp[ac]
  | p :: t=>by have:=dv t;unfold ac;split <;> simp <;> omega
theorem vY {N:Nat} (d:1099000000000≤N) (r:ah) (h:r.Pats.length≤1048576):iO N r=some (ac r.Pats:Int):=by
  unfold iO
  have:=lp' d r.Pats OY (ek N r) (fun t s=>some (s+(ac t:Int))) (fun s t=>0≤s∧s+t.length≤1048576) (0:Int) (by simp;omega) (fun n s i x t h1 a j e f g b c=>by
    simp only[gj] at b
    simp only[ek,f,if_true,e,gb,g,ac]
    cases k:x.Not with
    | true=>simpa using c s OY
    | false=>
      rw[wr (n:=s+1) OY OY]
      have:=c (s+1) OY
      simp only[hG,if_true,this,gf,if_false]
      congr 1;omega) (fun n s i h1 a b=>by simp only[ek,a,gf,if_false,ac];simp)
  simpa using this
def jA (vs:List ByteArray) (a:bZ):Bool:=!decide (a.K=1) || decide (a.S∈vs)
theorem BR {N:Nat} (b:1099000000000≤N) (a:bZ) (vs:List ByteArray) (h:vs.length≤4294967296):iM N a vs=some (jA vs a):=by
  unfold iM jA
  simp only[Lj b vs a.S h,gb,Of]
def DU (r:ah):Prop:=r.Name.size≤16∧(r.Pats.length≤16∧∀ p∈r.Pats,Hd p)∧(r.Conds.length≤16∧∀ c∈r.Conds,I5 c)∧r.Acts.length≤16∧∀ a∈r.Acts,Hb a
def iT (vs:List ByteArray) (a:bZ):Prop:=(∃ v,vV v∧a=⟨2,⟨#[]⟩,v⟩)∨∃ s∈vs,a=⟨1,s,⟨0,0,⟨#[]⟩⟩⟩
theorem Bu {N:Nat} (d:1099000000000≤N) {vs:List ByteArray} (b:vs.length≤4194304) {a:bZ} (h:kQ a):∃ c,mJ N a vs=some c∧iT vs c:=by
  unfold mJ
  rw[BR d a vs OY,gb]
  rcases h with ⟨v,b,rfl⟩ | ⟨s,j,rfl⟩
  · exact⟨_,by simp[jA],.inl ⟨v,b,rfl⟩⟩
  · by_cases hm:s∈vs
    · exact⟨_,by simp[jA,hm],.inr ⟨s,hm,rfl⟩⟩
    · have e:jA vs ⟨1,s,⟨0,0,⟨#[]⟩⟩⟩=false:=by simp[jA,hm]
      simp only[e,gf,if_false]
      cases vs with
      | nil=>exact⟨_,rfl,.inl ⟨⟨1,1,⟨#[]⟩⟩,.inl ⟨1,OY,OY,rfl⟩,rfl⟩⟩
      | cons x t=>
        have f:decide (((x :: t).length:Int)=0)=false:=decide_eq_false (by simp only[gj];omega)
        have g:idx (x :: t) 0=some x:=ag (xs:=x :: t) (i:=0) OZ
        simp only[f,gf,if_false,g,gb]
        exact⟨_,rfl,.inr ⟨x,OZ,rfl⟩⟩
theorem DX {vs:List ByteArray} (b:∀ s∈vs,s.size≤16) {a:bZ} (h:iT vs a):tY a:=by
  rcases h with ⟨v,h,rfl⟩ | ⟨s,h,rfl⟩
  · exact⟨ks _,zf h⟩
  · exact⟨b s h,ks _⟩
def lE (l:List az):Prop:=∃ ps ns,l=ps++ns∧1≤ps.length∧ps.length≤3∧ns.length≤1∧(∀ p∈ps,ri false p)∧∀ p∈ns,ri true p
theorem pJ {l:List az} (h:lE l):∀ p∈l,∃ n,ri n p:=by
  obtain⟨ps,ns,rfl,-,-,-,h1,a⟩:=h
  intro p hp
  rcases gh.1 hp with h | h
  · exact⟨_,h1 p h⟩
  · exact⟨_,a p h⟩
theorem t6 {l:List az} (h:lE l):1≤l.length∧l.length≤4:=by
  obtain⟨ps,ns,rfl,h1,a,b,-⟩:=h
  rw[gk];omega
theorem yg {B:Nat}:∀ {l:List az},(∀ p∈l,p.Args.length≤B)→l6 l≤l.length*B
  | [],_=>by simp[l6]
  | p :: t,h=>by
    have h1:=yg (l:=t) fun q a=>h q (by simp[a])
    have c:=h p OZ
    have b:l6 (p :: t)=p.Args.length+l6 t:=by simp[l6]
    rw[b,gj,hE];omega
theorem xq {l:List az} (h:lE l):l6 l≤8:=by
  have h1:=yg (B:=2) fun p hp=>(pJ h p hp).elim fun n a=>a.2.2.1
  have:=t6 h
  omega
theorem BZ {B:Nat} {l:List bZ} (h:∀ a∈l,a.S.size≤B):∀ x∈dm l,x.size≤B:=fun x b=>by
  obtain⟨a,c,_,rfl⟩:=ox.1 b;exact h a c
theorem rj {B:Nat}:∀ {l:List az},(∀ p∈l,∀ a∈p.Args,a.S.size≤B)→∀ x∈dp l,x.size≤B
  | [],_,x,b=>by simp[dp] at b
  | p :: t,h,x,b=>by
    unfold dp at b
    split at b
    · exact rj (fun q c=>h q (by simp[c])) x b
    · rcases gh.1 b with b | b
      · exact BZ (h p OZ) x b
      · exact rj (fun q c=>h q (by simp[c])) x b
def bnd (l:List az):List ByteArray:=(dp l).foldl dR []
theorem LP {l:List az} (h:lE l):∀ s∈bnd l,s.size≤16:=DT (rj fun p hp a b=>(pJ h p hp).elim fun n c=>(Ct (c.2.2.2 a b)).1) OZ
theorem EK {l:List az} (h:lE l):(bnd l).length≤8:=by
  have h1:=ml (dp l) []
  have a:=sF l
  have b:=xq h
  simp only[gx] at h1
  unfold bnd;omega
def rn (nm:ByteArray) (r:ah):Prop:=r.Name=nm∧r.Sal∈([0,0,5,(-5),100]:List Int)∧lE r.Pats∧(r.Conds.length≤1∧∀ c∈r.Conds,1≤c.Op∧c.Op≤3∧iT (bnd r.Pats) c.L∧iT (bnd r.Pats) c.R) ∧
  (1≤r.Acts.length∧r.Acts.length≤3∧∀ a∈r.Acts,vK (iT (bnd r.Pats)) (ac r.Pats) a)
theorem H4 {nm:ByteArray} {r:ah} (b:nm.size≤16) (h:rn nm r):DU r:=by
  obtain⟨h1,_,d,⟨j,g⟩,h5,h6,h7⟩:=h
  have e:∀ a,iT (bnd r.Pats) a→tY a:=fun a f=>DX (LP d) f
  have:=t6 d
  exact⟨by rw[h1];exact b,⟨OY,fun p hp=>(pJ d p hp).elim fun n b=>HG b⟩,⟨OY,fun c i=>⟨e _ (g c i).2.2.1,e _ (g c i).2.2.2⟩⟩,OY,fun a f=>JK e (h7 a f)⟩
theorem Oq {N:Nat} (k:1099000000000≤N) {b:List Int} {vs:List ByteArray} (l:vs.length≤4194304) (f:List ei) (g:Int) (K:List ei→Int→Int→Int→Option (ah × ab)) (c:ei × ab) {R:ah→Prop} {m:Nat} (hm:m≤4194304)
    (u:∀ es:List d5,es.length=m→(∀ e∈es,wg (iT vs) e)→Dr b R ((app f [⟨c.1.Kind,c.1.Name,es,c.1.N,c.1.Undo⟩]).bind fun v=>K v (IntKind.i64.wrap (g - 1)) c.2.i c.2.h)) :
    ∀ (n:Nat) (todo done:List d5),todo.length < n→done.length+todo.length=m→(∀ e∈done,wg (iT vs) e)→(∀ e∈todo,wg kQ e)→Dr b R (gY N vs f g K c n (done++todo) (done.length:Int)):=by
  intro n
  induction n with
  | zero=>intro _ _ h;omega
  | succ n w=>
    intro todo done x o p q
    simp only[gY]
    cases todo with
    | nil=>
      have i:decide ((done.length:Int) < ((done++([]:List d5)).length:Int))=false:=decide_eq_false OZ
      rw[i]
      simp only[gf,if_false,j5]
      exact u done (by simpa using o) p
    | cons e t=>
      have i:decide ((done.length:Int) < ((done++e :: t).length:Int))=true:=decide_eq_true (by simp;omega)
      have z:idx (done++e :: t) (done.length:Int)=some e:=by
        rw[ag (show done.length < (done++e :: t).length by simp)];simp
      have A:∀ y,(done++e :: t).set ((done.length:Int)).toNat y=(done++[y])++t:=fun y=>by
        rw[hX,ry _ _ (hz _)];simp
      simp only[gj] at x o
      rw[i]
      simp only[if_true]
      refine .bindO z ?_
      obtain⟨B,d⟩:=q e OZ
      obtain⟨l',el,r⟩:=Bu k l B
      refine .bindO el ?_
      have next:∀ y,wg (iT vs) y→Dr b R (gY N vs f g K c n ((done++e :: t).set ((done.length:Int)).toNat y) (IntKind.i64.wrap ((done.length:Int)+1))):=by
        intro y C
        rw[A,wr1 _ OY]
        have:=w t (done++[y]) OY (by simp;omega) (qj p C) (fun a D=>q a (by simp[D]))
        simpa using this
      rcases d with ⟨hO,d⟩ | ⟨hO,d⟩
      · have j:(!seq e.Op ⟨#[]⟩)=false:=by rw[lG,hO];simp
        rw[j]
        exact next _ ⟨r,.inl ⟨hO,d⟩⟩
      · have j:(!seq e.Op ⟨#[]⟩)=true:=by
          have:e.Op≠⟨#[]⟩:=(show ∀ s∈([⟨#[43]⟩,⟨#[45]⟩]:List ByteArray),s≠⟨#[]⟩ by decide) _ hO
          rw[lG];simp[this]
        rw[j]
        obtain⟨G,E,F⟩:=Bu k l d
        exact .bindO E (next _ ⟨r,.inr ⟨hO,F⟩⟩)
theorem Gy {N:Nat} (a:1099000000000≤N) (r:ah) (h:lE r.Pats):jC N r=some (bnd r.Pats):=by
  have h1:=t6 h
  have c:=xq h
  exact AP a r OY OY fun p hp=>by
    obtain⟨n,b⟩:=pJ h p hp
    have:=b.2.2.1
    omega
theorem Mu {N:Nat} (o:1099000000000≤N) {b:List Int} (l:b.length≤1048576) {c:ab} (g:GC b c) (nm:ByteArray):Dr b (rn nm) (pH N c nm):=by
  unfold pH
  refine (Hk l g _ (by decide)).bind fun u d gd F=>(mO l (gd.at g.1) 3 OY).bind fun v0 Q G S=>?_
  -- the acts
  have H:∀ (i:List az) (conds:List cX),lE i→(conds.length≤1∧∀ c∈conds,1≤c.Op∧c.Op≤3∧iT (bnd i) c.L∧iT (bnd i) c.R) →
      ∀ (n:Nat) (s:List ei) (k x h:Int),0≤k→k < n→1≤s.length+k→s.length+k≤3→(∀ a∈s,vK (iT (bnd i)) (ac i) a)→GC b ⟨c.b,x,h⟩→Dr b (rn nm) (gU N c nm (u,d) i (bnd i) conds n s k x h):=by
    intro i conds hp w n
    have T:=t6 hp
    induction n with
    | zero=>intro s k x h y h1;omega
    | succ n z=>
      intro s k x h y h1 I K B j
      simp only[gU]
      refine .ite (fun hk=>?_) (fun hk=>?_)
      · have hk:=of_decide_eq_true hk
        refine .bindO (vY o _ (show i.length≤1048576 by omega)) ((NA o l j _).bind fun a f r A=>?_)
        have U:=A.1
        have:=Oq o (b:=b) (vs:=bnd i) (by have:=EK hp;omega) s k (gU N c nm (u,d) i (bnd i) conds n) (a,f) (R:=rn nm) (m:=a.Args.length) OY (fun es t he=>by
          refine .bindO (tP OY OZ) ?_
          rw[wrm hk OY]
          refine z _ (k - 1) _ _ OY OY (by simp;omega) (by simp;omega) (qj B ?_) (r.at (c:=⟨c.b,x,h⟩) j.1)
          refine⟨by dsimp only;omega,he,?_⟩
          rcases A.2.2 with h | h | h
          · exact .inl ⟨h.1,h.2.1,by have:=h.2.2.1;rw[this] at t;exact qu t,h.2.2.2⟩
          · exact .inr (.inl ⟨h.1,h.2.1,by have:=h.2.2.1;rw[this] at t;exact qu t,h.2.2.2⟩)
          · exact .inr (.inr h)) N a.Args [] OY OZ OZ A.2.1
        exact this
      · have hk:=of_decide_eq_false hk
        exact .ret j ⟨rfl,F,hp,w,by dsimp only;omega,by dsimp only;omega,B⟩
  have C:∀ (i:List az) (conds:List cX),lE i→(conds.length≤1∧∀ c∈conds,1≤c.Op∧c.Op≤3∧iT (bnd i) c.L∧iT (bnd i) c.R)→∀ (x h:Int),GC b ⟨c.b,x,h⟩→Dr b (rn nm) (jY N c nm (u,d) i (bnd i) conds x h):=by
    intro i conds hp w x h j
    unfold jY
    refine (mO l j 3 OY).bind fun v e ge q=>?_
    dsimp only
    rw[wr (show -9223372036854775808≤1+v by omega) OY]
    exact H i conds hp w N [] _ _ _ OY OY (by simp;omega) (by simp;omega) OZ (ge.at (c:=⟨c.b,x,h⟩) j.1)
  have D:∀ (i:List az),lE i→∀ (x h:Int),GC b ⟨c.b,x,h⟩→Dr b (rn nm) (kr N c nm (u,d) i x h):=by
    intro i hp x h j
    unfold kr
    have E:(bnd i).length≤4194304:=by have:=EK hp;omega
    refine .bindO (Gy o _ hp) ((tO l j 3).bind fun v e ge _=>.ite (fun _=>?_) (fun _=>?_))
    · refine (LR l (ge.at (c:=⟨c.b,x,h⟩) j.1)).bind fun cd f r qc=>?_
      obtain⟨l',el,t⟩:=Bu o E qc.2.2.1
      obtain⟨V,L,M⟩:=Bu o E qc.2.2.2
      refine .bindO el (.bindO L (.bindO (tP OZ OZ) ?_))
      exact C i _ hp ⟨OZ,by simp;exact⟨qc.1,qc.2.1,t,M⟩⟩ _ _ (r.at (c:=⟨c.b,x,h⟩) j.1)
    · exact C i [] hp ⟨OZ,OZ⟩ _ _ (ge.at (c:=⟨c.b,x,h⟩) j.1)
  have O:∀ (n:Nat) (s:List az) (k x h:Int),0≤k→k < n→1≤s.length+k→s.length+k≤3→(∀ p∈s,ri false p)→GC b ⟨c.b,x,h⟩→Dr b (rn nm) (km N c nm (u,d) n s k x h):=by
    intro n
    induction n with
    | zero=>intro s k x h y h1;omega
    | succ n z=>
      intro s k x h y h1 I K hp j
      simp only[km]
      refine .ite (fun hk=>?_) (fun hk=>?_)
      · have hk:=of_decide_eq_true hk
        refine (Lc o l j false).bind fun p f r qp=>.bindO (tP OY OZ) ?_
        rw[wrm hk OY]
        exact z _ (k - 1) _ _ OY OY (by simp;omega) (by simp;omega) (qj hp qp) (r.at (c:=⟨c.b,x,h⟩) j.1)
      · have hk:=of_decide_eq_false hk
        refine (tO l j 3).bind fun v f r _=>.ite (fun _=>?_) (fun _=>?_)
        · refine (Lc o l (r.at (c:=⟨c.b,x,h⟩) j.1) true).bind fun p W P qp=>.bindO (tP OY OZ) ?_
          exact D _ ⟨s,[p],rfl,OY,OY,OZ,hp,by simpa using qp⟩ _ _ (P.at (c:=⟨c.b,x,h⟩) j.1)
        · exact D _ ⟨s,[],OZ,OY,OY,OZ,hp,OZ⟩ _ _ (r.at (c:=⟨c.b,x,h⟩) j.1)
  dsimp only
  rw[wr (show -9223372036854775808≤1+v0 by omega) OY]
  exact O N [] _ _ _ OY OY (by simp;omega) (by simp;omega) OZ (G.at g.1)
theorem xa (f:Nat→Int→Option Bool) (a:Nat) (hm:a≤4611686018427387903) (e:Nat→Bool) (z:Bool)
    (h:∀ k (i:Nat),i < a→f (k+1) i=if e i then f k (IntKind.i64.wrap ((i:Int)+1)) else some false) (c:∀ k (i:Nat),i=a→f (k+1) i=some z) :
    ∀ (n i:Nat),i≤a→a - i < n→f n i=some (((List.range a).drop i).all e && z):=by
  intro n
  induction n with
  | zero=>intro i _ h;omega
  | succ n d=>
    intro i g j
    by_cases b:i < a
    · rw[h n i b,hn (by simpa using b),List.getElem_range,hZ]
      cases he:e i with
      | false=>simp
      | true=>simp only[if_true,hI];rw[wr1 i OY,d (i+1) OY OY]
    · have:i=a:=by omega
      rw[c n i this,hy (by simp;omega)]
      simp
theorem in0 (N:Nat) (a b c:Int):ev N a b c=some (decide (b≤a) && decide (a≤c)):=by
  unfold ev
  by_cases h:b≤a <;> simp[h]
theorem in1 (N:Nat) (a b c:Int):dK N a b c=some (decide (b≤a) && decide (a≤c)):=by
  unfold dK
  by_cases h:b≤a <;> simp[h]
theorem wrU (y:UInt8):IntKind.i64.wrap (y.toNat:Int)=(y.toNat:Int):=wr OY (by have:=y.toNat_lt;omega)
def kY (y:UInt8):Bool:=(decide (97≤(y.toNat:Int)) && decide ((y.toNat:Int)≤122)) || (decide (48≤(y.toNat:Int)) && decide ((y.toNat:Int)≤57)) || decide ((y.toNat:Int)=95)
theorem zh (N:Nat) (y:UInt8):jM N (y.toNat:Int)=some (kY y):=by
  unfold jM kY
  simp only[wrU,in0,gb]
  by_cases h1:(decide (97≤(y.toNat:Int)) && decide ((y.toNat:Int)≤122))=true
  · simp[h1]
  · rw[if_neg h1]
    simp only[gb]
    rw[Bool.eq_false_iff.2 h1,sX]
    by_cases a:(decide (48≤(y.toNat:Int)) && decide ((y.toNat:Int)≤57))=true
    · simp[a]
    · rw[if_neg a,Bool.eq_false_iff.2 a,sX];rfl
theorem Cd (N:Nat) (y:UInt8):jr N (y.toNat:Int)=some (kY y):=by
  unfold jr l7 qU kY
  generalize (y.toNat:Int)=n
  rw[mL,mL,gb,gb,gb,gb,orS,gb,orS]
  rfl
def uJ (y:UInt8):Bool:=decide (97≤(y.toNat:Int)) && decide ((y.toNat:Int)≤122)
def po (s:ByteArray):Bool:=((List.range s.size).drop 0).all (fun i=>match s.data.toList[i]? with | some y=>kY y | none=>false)
theorem nD (s:ByteArray):s.data.toList.length=s.size:=rfl
theorem JJ {N:Nat} (c:1048578≤N) (s:ByteArray) (d:s.size≤1048576):oF N s=some (po s && decide ((s.size:Int)≤20)):=by
  unfold oF
  refine xa (fun n i=>gw N s n i) s.size OY _ _ (fun k i a=>?_) (fun k i a=>?_) N 0 OY OY
  · have b:i < s.data.toList.length:=by rw[nD];exact a
    simp only[gw,ag b,gb,zh,gm b]
    rw[if_pos (by simp;omega)]
    cases kY s.data.toList[i] <;> simp
  · simp only[gw]
    rw[if_neg (by simp;omega)]
theorem Ed {N:Nat} (c:1048578≤N) (s:ByteArray) (n:Int) (d:s.size≤1048576):nE N s n=some (po s && decide ((s.size:Int)≤n)):=by
  unfold nE
  have:ft N s N 0=some (po s && true):=by
    refine xa (fun n i=>ft N s n i) s.size OY _ _ (fun k i a=>?_) (fun k i a=>?_) N 0 OY OY
    · have b:i < s.data.toList.length:=by rw[nD];exact a
      simp only[ft,ag b,gb,Cd,gm b]
      rw[if_pos (by simp;omega)]
      cases kY s.data.toList[i] <;> simp
    · simp only[ft]
      rw[if_neg (by simp;omega)]
  rw[this]
  by_cases h:n < (s.size:Int)
  · rw[if_pos (by simpa using h),decide_eq_false OY,vi]
  · rw[if_neg (by simpa using h),decide_eq_true (show (s.size:Int)≤n by omega)]
theorem Ll {N:Nat} (b:1048578≤N) (s:ByteArray) (c:s.size≤1048576):iv N s=some ((match s.data.toList[0]? with | some y=>uJ y | none=>false) && (po s && decide ((s.size:Int)≤12))):=by
  unfold iv
  rw[Ed b s 12 c]
  by_cases h:0 < s.size
  · have a:0 < s.data.toList.length:=by rw[nD];exact h
    have d:idx s.data.toList 0=some s.data.toList[0]:=by simpa using ag (i:=0) a
    rw[if_pos (by simpa using h),d,gm a]
    have:l7 N (s.data.toList[0].toNat:Int)=some (uJ s.data.toList[0]):=by
      unfold l7 uJ
      generalize (s.data.toList[0].toNat:Int)=n
      by_cases h1:97≤n <;> simp[h1]
    simp only[gb,this]
    cases uJ s.data.toList[0] <;> simp
  · rw[if_neg (by simpa using h),q6 (by rw[nD];omega)]
    rfl
theorem LJ {N:Nat} (g:1048578≤N) (s:ByteArray) (h:s.size≤1048576):fk N s=some ((match s.data.toList[0]? with | some y=>uJ y | none=>false) && (po s && decide ((s.size:Int)≤12))):=by
  unfold fk
  have:=xa (fun n i=>fq N s n i) s.size OY (fun i=>match s.data.toList[i]? with | some y=>kY y && (decide (¬ i=0) || uJ y) | none=>false) (decide (1≤(s.size:Int)) && decide ((s.size:Int)≤12)) (fun k i d=>by
    have c:i < s.data.toList.length:=by rw[nD];exact d
    simp only[fq,ag c,gb,zh,gm c,wrU,in0]
    rw[if_pos (by simp;omega)]
    have e:decide ((i:Int)=0)=decide (i=0):=by rw[decide_eq_decide];omega
    rw[e]
    unfold uJ
    simp only[mL,orS,gb]
    generalize kY s.data.toList[i]=a
    generalize (decide (97≤(s.data.toList[i].toNat:Int)) && decide ((s.data.toList[i].toNat:Int)≤122))=b
    cases a <;> cases b <;> by_cases f:i=0 <;> simp[f]) (fun k i d=>by
    simp only[fq,in0,gb]
    rw[if_neg (by simp;omega)]) N 0 OY OY
  rw[show fq N s N 0=_ from this]
  congr 1
  unfold po
  simp only[hQ]
  cases j:s.size with
  | zero=>
    rw[q6 (by rw[nD];omega)]
    simp
  | succ n=>
    have c:0 < s.data.toList.length:=by rw[nD];omega
    rw[gm c,List.range_succ_eq_map]
    simp only[hZ,gm c,List.all_map,Function.comp_def,Nat.succ_eq_add_one]
    have:∀ i,(match s.data.toList[i+1]? with | some y=>kY y && (decide (¬ i+1=0) || uJ y) | none=>false)=(match s.data.toList[i+1]? with | some y=>kY y | none=>false):=by
      intro i;cases s.data.toList[i+1]? <;> simp
    simp only[this]
    have h1:decide (1≤((n+1:Nat):Int))=true:=by simp;omega
    simp only[h1,hI,not_true,decide_false,sX]
    cases kY s.data.toList[0] <;> cases uJ s.data.toList[0] <;> simp
theorem KQ {N:Nat} (a:1048578≤N) (v:bn) (b:v.S.size≤1048576):pD N v=mF N v:=by
  unfold pD mF
  rw[JJ a _ b,Ed a _ _ b,in0,in1]
  by_cases h1:v.K=1
  · simp[h1]
  · by_cases c:v.K=2
    · simp only[c,mL,orS,gb]
      cases decide (v.N=0) <;> cases po v.S <;> cases decide ((v.S.size:Int)≤20) <;> rfl
    · simp[h1,c]
def rG (v:bn):Bool:=if v.K=1 then (decide (-1000000000≤v.N) && decide (v.N≤1000000000)) && seq v.S ⟨#[]⟩ else if v.K=2 then decide (v.N=0) && (po v.S && decide ((v.S.size:Int)≤20)) else false
theorem Fm {N:Nat} (b:1048578≤N) (v:bn) (c:v.S.size≤1048576):mF N v=some (rG v):=by
  unfold mF rG
  rw[Ed b _ _ c,in1]
  by_cases h1:v.K=1
  · simp only[h1,decide_true,if_true,gb]
    cases (decide (-1000000000≤v.N) && decide (v.N≤1000000000)) <;> simp
  · by_cases a:v.K=2
    · by_cases d:v.N=0 <;> simp[a,d]
    · simp[h1,a]
def td (y:UInt8):Bool:=decide (65≤(y.toNat:Int)) && decide ((y.toNat:Int)≤90)
theorem Ff (N:Nat) (y:UInt8):mG N (y.toNat:Int)=some (td y):=by
  unfold mG td;cases decide (65≤(y.toNat:Int)) <;> rfl
theorem FJ (N:Nat) (y:UInt8):ot N (y.toNat:Int)=some (td y):=by
  unfold ot td;rw[wrU,in0];rfl
def AB (s:ByteArray):Bool:=match s.data.toList with
  | []=>false
  | b :: t=>td b && (t.all (fun y=>kY y || td y) && decide ((s.size:Int)≤12))
theorem Nh {N:Nat} (j:1099000000000≤N) (s:ByteArray) (k:s.size≤1048576):rJ N s=some (AB s):=by
  have c:s.size=s.data.toList.length:=rfl
  have lp:=xU (iP N s) s.data.toList OY (fun y=>kY y || td y) true 0 (fun n i y _ f _ a hw=>by
    rw[← c] at a
    simp only[iP,a,if_true,f,gb,Cd,Ff,hw]
    cases kY y <;> cases td y <;> rfl) (fun n i a=>by rw[← c] at a;simp only[iP,a,gf,if_false])
  unfold rJ AB
  cases d:s.data.toList with
  | nil=>
    have:s.size=0:=by rw[c,d];rfl
    rw[this];rfl
  | cons b t=>
    have h1:s.size=t.length+1:=by rw[c,d];rfl
    have c1:decide ((s.size:Int) < 1)=false:=decide_eq_false OY
    have:=lp N 0 OY OY OY
    rw[d] at this
    have g:idx (b :: t) 0=some b:=rfl
    simp only[c1,gf,if_false,gb,g,Ff]
    by_cases c2:(s.size:Int)≤12
    · have e:decide (12 < (s.size:Int))=false:=decide_eq_false OY
      simp only[c2,e,decide_true,q7,gf,if_false,gb]
      cases h:td b with
      | false=>rfl
      | true=>
        simp only[hC,gf,if_false,hI]
        refine this.trans ?_
        simp[h]
    · have e:decide (12 < (s.size:Int))=true:=decide_eq_true OY
      simp only[c2,e,decide_false,vi,if_true,gb]
theorem NL {N:Nat} (h:1099000000000≤N) (s:ByteArray) (j:s.size≤1048576):oP N s=some (AB s):=by
  have c:s.size=s.data.toList.length:=rfl
  have lp:=xU (dZ N s) s.data.toList OY (fun y=>kY y || td y) (decide (1≤(s.size:Int)) && decide ((s.size:Int)≤12)) 1 (fun n i y h1 e _ a hw=>by
    rw[← c] at a
    have f:decide ((i:Int)=0)=false:=decide_eq_false OY
    simp only[dZ,a,if_true,e,gb,zh,FJ,hw,f,gf,if_false]
    cases kY y <;> cases td y <;> rfl) (fun n i a=>by rw[← c] at a;simp only[dZ,a,gf,if_false,in0,gb])
  unfold oP AB
  obtain⟨n,rfl⟩:∃ n,N=n+1:=⟨N - 1,OY⟩
  cases d:s.data.toList with
  | nil=>
    have:s.size=0:=by rw[c,d];rfl
    simp only[dZ,this,in0];rfl
  | cons b t=>
    have h1:s.size=t.length+1:=by rw[c,d];rfl
    have c1:decide ((0:Int) < (s.size:Int))=true:=decide_eq_true OY
    have:=lp n 1 OY OY OY
    rw[d] at this
    have g:idx (b :: t) 0=some b:=rfl
    simp only[dZ,c1,if_true,d,g,gb,FJ,decide_true]
    cases k:td b with
    | false=>rfl
    | true=>
      simp only[hC,gf,if_false,gb,hI]
      rw[show IntKind.i64.wrap ((0:Int)+1)=((1:Nat):Int) from wr1 0 OY]
      refine this.trans ?_
      simp[show (1:Int)≤(s.size:Int) by omega]
def uK (a:bZ):Prop:=a.S.size≤1048576∧a.V.S.size≤1048576
def mo (a:bZ):Bool:=if a.K=1 then AB a.S && bp a.V ⟨0,0,⟨#[]⟩⟩ else if a.K=2 then rG a.V && seq a.S ⟨#[]⟩ else if a.K=3 then seq a.S ⟨#[]⟩ && bp a.V ⟨0,0,⟨#[]⟩⟩ else false
theorem Fo {N:Nat} (b:1099000000000≤N) (a:bZ) (h:uK a):mH N a=some (mo a):=by
  unfold mH mo
  rw[NL b _ h.1,KQ OY _ h.2,Fm OY _ h.2]
  simp only[gb,mL,decide_eq_true_eq]
  split <;> (try split) <;> (try split) <;> rfl
theorem L7 {N:Nat} (b:1099000000000≤N) (a:bZ) (h:uK a):pC N a=some (mo a):=by
  unfold pC mo
  rw[Nh b _ h.1,Fm OY _ h.2]
  simp only[gb,mL,decide_eq_true_eq,L6]
  split <;> (try split) <;> (try split) <;> simp[L6]
def rI (a:bZ):Bool:=mo a && !decide (a.K=3)
theorem Fz {N:Nat} (b:1099000000000≤N) (a:bZ) (h:uK a):kT N a=some (rI a):=by
  unfold kT rI;simp only[Fo b a h,gb,mL]
theorem xX {N:Nat} (b:1099000000000≤N) (a:bZ) (h:uK a):jI N a=some (rI a):=by
  unfold jI rI;simp only[L7 b a h,gb,mL,L6]
def yx (e:d5):Prop:=e.Op.size≤1048576∧uK e.L∧uK e.R
def kI (e:d5):Bool:=if seq e.Op ⟨#[]⟩ then rI e.L && om e.R ⟨0,⟨#[]⟩,⟨0,0,⟨#[]⟩⟩⟩ else (seq e.Op ⟨#[43]⟩ || seq e.Op ⟨#[45]⟩) && (rI e.L && rI e.R)
theorem Ln {N:Nat} (a:1099000000000≤N) (e:d5) (h:yx e):pP N e=some (kI e):=by
  unfold pP ko kI
  simp only[Fz a _ h.2.1,Fz a _ h.2.2,gb,mL]
  cases seq e.Op ⟨#[]⟩ <;> cases seq e.Op ⟨#[43]⟩ <;> cases seq e.Op ⟨#[45]⟩ <;> rfl
theorem Lz {N:Nat} (a:1099000000000≤N) (e:d5) (h:yx e):qk N e=some (kI e):=by
  unfold qk jX kI
  simp only[xX a _ h.2.1,xX a _ h.2.2,gb,mL]
  cases seq e.Op ⟨#[]⟩ <;> cases seq e.Op ⟨#[43]⟩ <;> cases seq e.Op ⟨#[45]⟩ <;> rfl
def eD (s:ByteArray):Bool:=(match s.data.toList[0]? with | some y=>uJ y | none=>false) && (po s && decide ((s.size:Int)≤12))
theorem rM {N:Nat} (b:1099000000000≤N) (s:ByteArray) (a:s.size≤1048576):fk N s=some (eD s):=LJ OY s a
theorem rU {N:Nat} (b:1099000000000≤N) (s:ByteArray) (a:s.size≤1048576):iv N s=some (eD s):=Ll OY s a
def Ay (a:ei):Prop:=a.Name.size≤1048576∧a.Undo.size≤1048576∧a.Args.length≤1048576∧∀ e∈a.Args,yx e
theorem MU {N:Nat} (b:1099000000000≤N) (xs:List d5) (d:xs.length≤1048576) (h:∀ e∈xs,yx e):m6 N xs=some (xs.all kI && decide ((xs.length:Int)≤5)):=by
  unfold m6
  have:=xU (gW N xs) xs OY kI (decide ((xs.length:Int)≤5)) 0 (fun n i y _ c hm a hw=>by
    simp only[gW,a,if_true,c,gb,Ln b y (h y hm),hw];cases kI y <;> rfl) (fun n i a=>by simp only[gW,a,gf,if_false]) N 0 OY OY OY
  simpa using this
theorem Ma {N:Nat} (e:1099000000000≤N) (a:ei) (h:Ay a):m8 N a=some (eD a.Name && (a.Args.all kI && decide ((a.Args.length:Int)≤5))):=by
  obtain⟨h1,k,l,f⟩:=h
  unfold m8
  have:=xU (fC N a) a.Args OY kI true 0 (fun n i y _ g hm b hw=>by
    simp only[fC,b,if_true,g,gb,Lz e y (f y hm),hw];cases kI y <;> rfl) (fun n i b=>by simp only[fC,b,gf,if_false]) N 0 OY OY OY
  have j:fC N a N 0=some (a.Args.all kI):=by simpa using this
  simp only[rU e _ h1,gb,j]
  cases eD a.Name with
  | false=>rfl
  | true=>
    by_cases c:(a.Args.length:Int)≤5
    · have d:decide (5 < (a.Args.length:Int))=false:=decide_eq_false OY
      simp only[c,d,decide_true,q7,hI,hC,gf,if_false,gb]
    · have d:decide (5 < (a.Args.length:Int))=true:=decide_eq_true OY
      simp only[c,d,decide_false,vi,hC,gf,if_false,if_true,gb]
def qx (a:ei):Bool:=
  let na:=eD a.Name && (a.Args.all kI && decide ((a.Args.length:Int)≤5))
  let bare:=seq a.Name ⟨#[]⟩ && decide ((a.Args.length:Int)=0)
  if a.Kind=1 then na && decide (a.N=0) && seq a.Undo ⟨#[]⟩
  else if a.Kind=2 then bare && (decide (0≤a.N) && decide (a.N≤7)) && seq a.Undo ⟨#[]⟩
  else if a.Kind=3 then na && decide (a.N=0) && (seq a.Undo ⟨#[]⟩ || eD a.Undo)
  else if a.Kind=4 then na && (decide (0≤a.N) && decide (a.N≤100000)) && seq a.Undo ⟨#[]⟩
  else if a.Kind=5∨a.Kind=6 then bare && decide (a.N=0) && seq a.Undo ⟨#[]⟩
  else false
theorem N6 {N:Nat} (b:1099000000000≤N) (a:ei) (h:Ay a):rN N a=some (qx a):=by
  obtain⟨h1,k,l,m⟩:=h
  unfold rN l8 qx
  simp only[MU b _ l m,rM b _ h1,rM b _ k,in0,gb,mL,orS,decide_eq_true_eq]
  generalize eD a.Name=n;generalize a.Args.all kI=e;generalize eD a.Undo=u;generalize seq a.Name ⟨#[]⟩=sn;generalize seq a.Undo ⟨#[]⟩=su
  by_cases c:a.Kind=1
  · simp[c] <;> (cases n <;> cases e <;> simp)
  by_cases d:a.Kind=3
  · simp[d] <;> (cases n <;> cases e <;> simp)
  by_cases f:a.Kind=4
  · simp[f] <;> (cases n <;> cases e <;> simp)
  by_cases g:a.Kind=2
  · simp[g] <;> (cases sn <;> cases su <;> simp)
  by_cases i:a.Kind=5
  · simp[i] <;> (cases sn <;> cases su <;> simp)
  · by_cases j:a.Kind=6
    · simp[j] <;> (cases sn <;> cases su <;> simp)
    · simp[c,g,d,f,i,j]
theorem NC {N:Nat} (b:1099000000000≤N) (a:ei) (h:Ay a):rQ N a=some (qx a):=by
  have k:=Ma b a h
  obtain⟨h1,l,m,o⟩:=h
  unfold rQ lg sO qx
  simp only[k,rU b _ l,in1,gb,mL,orS,decide_eq_true_eq]
  generalize eD a.Name=n;generalize a.Args.all kI=e;generalize eD a.Undo=u;generalize seq a.Name ⟨#[]⟩=sn;generalize seq a.Undo ⟨#[]⟩=su
  by_cases c:a.Kind=1
  · simp[c] <;> (cases n <;> cases e <;> simp)
  by_cases d:a.Kind=3
  · simp[d] <;> (cases n <;> cases e <;> simp)
  by_cases f:a.Kind=4
  · simp[f] <;> (cases n <;> cases e <;> simp)
  by_cases g:a.Kind=2
  · simp[g] <;> (cases sn <;> cases su <;> simp)
  by_cases i:a.Kind=5
  · simp[i] <;> (cases sn <;> cases su <;> simp)
  · by_cases j:a.Kind=6
    · simp[j] <;> (cases sn <;> cases su <;> simp)
    · simp[c,g,d,f,i,j]
def AK (p:az):Prop:=p.Kind.size≤1048576∧p.Args.length≤1048576∧∀ a∈p.Args,uK a
def mI (p:az):Bool:=eD p.Kind && (decide ((p.Args.length:Int)≤5) && p.Args.all mo)
theorem Ns {N:Nat} (a:1099000000000≤N) (p:az) (h:AK p):rP N p=some (mI p):=by
  obtain⟨h1,e,d⟩:=h
  have lp:=lp0 a p.Args OY (iQ N p) (fun t=>some (t.all mo)) (fun n i x t g1 g2 g3 g4 g5 g6 g7=>by
    simp only[iQ,g5,if_true,g4,gb,L7 a x (d x g2),g6,g7,hZ];cases mo x <;> rfl) (fun n i g1 g2=>by simp only[iQ,g2,gf,if_false];rfl)
  unfold rP mI
  simp only[rU a _ h1,gb,lp]
  by_cases c:(p.Args.length:Int)≤5
  · have b:decide (5 < (p.Args.length:Int))=false:=decide_eq_false OY
    simp only[c,b,decide_true];cases eD p.Kind <;> simp
  · have b:decide (5 < (p.Args.length:Int))=true:=decide_eq_true OY
    simp only[c,b,decide_false];cases eD p.Kind <;> simp
theorem Nf {N:Nat} (d:1099000000000≤N) (p:az) (h:AK p):sv N p=some (mI p):=by
  obtain⟨h1,f,e⟩:=h
  have lp:=lp0 d p.Args OY (iK N p) (fun t=>some (t.all mo && (eD p.Kind && decide ((p.Args.length:Int)≤5)))) (fun n i x t g1 g2 g3 g4 g5 g6 g7=>by
    simp only[iK,g5,if_true,g4,gb,Fo d x (e x g2),g6,g7,hZ];cases mo x <;> simp) (fun n i g1 g2=>by
    simp only[iK,g2,gf,if_false,rM d _ h1,gb,mL,K4,hI])
  unfold sv mI
  rw[lp]
  generalize eD p.Kind=a;generalize p.Args.all mo=b;generalize decide ((p.Args.length:Int)≤5)=c
  cases a <;> cases b <;> cases c <;> rfl
def zz (c:cX):Prop:=uK c.L∧uK c.R
def qb (c:cX):Bool:=(decide (1≤c.Op) && decide (c.Op≤3)) && (rI c.L && rI c.R)
theorem MQ {N:Nat} (a:1099000000000≤N) (c:cX) (h:zz c):pN N c=some (qb c):=by
  unfold pN qb
  simp only[in1,xX a _ h.1,xX a _ h.2,gb,mL,LL]
theorem MO {N:Nat} (g:1099000000000≤N) (c:cX) (h:zz c):pY N c=some (qb c):=by
  unfold pY qb rI
  simp only[in0,Fo g _ h.1,Fo g _ h.2,gb,mL]
  generalize mo c.L=a;generalize mo c.R=b;generalize (decide (c.L.K=3))=d;generalize (decide (c.R.K=3))=e;generalize (decide (1≤c.Op) && decide (c.Op≤3))=f
  cases a <;> cases b <;> cases d <;> cases e <;> cases f <;> rfl
theorem Nu {N:Nat} (d:1099000000000≤N) (xs:List ByteArray) (v:ByteArray) (c:xs.length≤4294967296):∃ r,dO N xs v=some r∧decide (0≤r)=decide (v∈xs):=by
  unfold dO
  have:=yQ (bF N xs v) xs c (fun x=>seq v x) (fun n i x a _ b hw=>by simp only[bF,b,if_true,a,gb,hw]) (fun n i b=>by simp only[bF,b,gf,if_false]) N 0 OY OY
  rw[hQ,show ((0:Nat):Int)=0 from rfl] at this
  refine⟨_,this,?_⟩
  rw[HK,rs,L2,decide_eq_true_eq]
  simp only[lG,decide_eq_true_eq]
  constructor
  · rintro⟨x,a,rfl⟩;exact a
  · intro h;exact⟨v,h,rfl⟩
theorem KK {N:Nat} (a:1099000000000≤N) (xs:List ByteArray) (v:ByteArray) (b:xs.length≤4294967296):cJ N xs v=some (decide (v∈xs)):=by
  unfold cJ
  obtain⟨r,h1,c⟩:=Nu a xs v b
  rw[h1,gb,c]
theorem J9 {N:Nat} (a:1099000000000≤N) (s:List ByteArray) (v:ByteArray) (b:s.length≤4294967295):oJ N s v=some (dR s v):=by
  unfold oJ dR
  rw[KK a s v OY,gb]
  by_cases h:v∈s
  · simp[h]
  · simp only[h,decide_false,gf,if_false,cg (show s.length+[v].length≤4294967296 by simp;omega),gb]
theorem xf {N:Nat} (a:1099000000000≤N) (l:List bZ) (s:List ByteArray) (e:s.length+l.length≤4294967290):kW N s l=some ((dm l).foldl dR s):=by
  unfold kW
  refine lp' a l OY (fV N l) (fun t s=>some ((dm t).foldl dR s)) (fun s t=>s.length+t.length≤4294967290) s e (fun n s i x t h1 b k f g j c d=>?_) (fun n s i h1 b c=>?_)
  · simp only[gj] at c
    simp only[fV,g,if_true,f,gb,j,dm,J9 a s x.S OY]
    by_cases h:x.K=1
    · simp only[h,decide_true,if_true,rv]
      exact d _ (by have:=wh s x.S;omega)
    · simp only[h,decide_false,gf,if_false]
      exact d _ OY
  · simp only[fV,b,gf,if_false];rfl
theorem GF {N:Nat} (b:1099000000000≤N) (r:ah) (h:r.Pats.length≤1048576) (j:l6 r.Pats≤1048576):mz N r=some ((dp r.Pats).foldl dR []):=by
  unfold mz
  refine lp' b r.Pats OY (gl N r) (fun t s=>some ((dp t).foldl dR s)) (fun s t=>s.length+l6 t≤4294967290) [] (by simp;omega) (fun n s i x t h1 a k e f g c d=>?_) (fun n s i h1 a c=>?_)
  · have l:s.length+(x.Args.length+l6 t)≤4294967290:=by simpa[l6] using c
    simp only[gl,f,if_true,e,gb,g,dp,xf b x.Args s OY]
    cases m:x.Not with
    | true=>simpa using d s OY
    | false=>
      have h1:=jB x.Args
      have a:=ml (dm x.Args) s
      simpa[u0] using d _ (show ((dm x.Args).foldl dR s).length+l6 t≤4294967290 by omega)
  · simp only[gl,a,gf,if_false];rfl
theorem EJ {N:Nat} (d:1099000000000≤N) (r:ah) (h:r.Pats.length≤1048576):jL N r=some (ac r.Pats:Int):=by
  unfold jL
  have:=lp' d r.Pats OY (eo N r) (fun t s=>some (s+(ac t:Int))) (fun s t=>0≤s∧s+t.length≤1048576) (0:Int) (by simp;omega) (fun n s i x t h1 a j e f g b c=>by
    simp only[gj] at b
    simp only[eo,f,if_true,e,gb,g,ac]
    cases k:x.Not with
    | true=>simpa using c s OY
    | false=>
      rw[wr (n:=s+1) OY OY]
      have:=c (s+1) OY
      simp only[hG,if_true,this,gf,if_false]
      congr 1;omega) (fun n s i h1 a b=>by simp only[eo,a,gf,if_false,ac];simp)
  simpa using this
def eH (c:Nat):Nat→List az→Bool
  | _,[]=>true
  | i,p :: t=>mI p && ((p.Not == decide (c≤i)) && eH c (i+1) t)
def gS (l:List az):Bool:=(decide (1≤l.length) && decide (l.length≤6)) && ((decide (1≤ac l) && decide (ac l≤3)) && eH (ac l) 0 l)
theorem Md {N:Nat} (b:1099000000000≤N) (r:ah) (d:r.Pats.length≤1048576) (hp:∀ p∈r.Pats,AK p):qJ N r=some (gS r.Pats):=by
  have c:=EJ b r d
  have lp:∀ (n i:Nat),i≤r.Pats.length→r.Pats.length - i < n→fF N r n i=some (eH (ac r.Pats) i (r.Pats.drop i)):=by
    intro n
    induction n with
    | zero=>intro i _ h;omega
    | succ n e=>
      intro i m o
      by_cases a:i < r.Pats.length
      · have c1:decide ((i:Int) < (r.Pats.length:Int))=true:=decide_eq_true OY
        rw[hn a]
        simp only[fF,c1,if_true,ag a,gb,Ns b _ (hp _ (hB a)),c,wr1 i OY,e (i+1) OY OY,eH]
        have f:decide ((ac r.Pats:Int)≤(i:Int))=decide (ac r.Pats≤i):=by rw[decide_eq_decide];omega
        rw[f]
        cases mI r.Pats[i] <;> cases r.Pats[i].Not <;> cases decide (ac r.Pats≤i) <;> rfl
      · have c1:decide ((i:Int) < (r.Pats.length:Int))=false:=decide_eq_false OY
        rw[hy OY]
        simp only[fF,c1,gf,if_false];rfl
  have g:=lp N 0 OY OY
  have h1:decide ((1:Int)≤(r.Pats.length:Int))=decide (1≤r.Pats.length):=by rw[decide_eq_decide];omega
  have j:decide ((r.Pats.length:Int)≤6)=decide (r.Pats.length≤6):=by rw[decide_eq_decide];omega
  have k:decide ((1:Int)≤(ac r.Pats:Int))=decide (1≤ac r.Pats):=by rw[decide_eq_decide];omega
  have l:decide ((ac r.Pats:Int)≤3)=decide (ac r.Pats≤3):=by rw[decide_eq_decide];omega
  unfold qJ gS
  simp only[in1,gb,c,h1,j,k,l]
  rw[show fF N r N 0=_ from g,hQ]
  cases (decide (1≤r.Pats.length) && decide (r.Pats.length≤6)) <;> cases (decide (1≤ac r.Pats) && decide (ac r.Pats≤3)) <;> rfl
def vX:Nat→Bool→List az→Bool
  | _,_,[]=>true
  | i,b,p :: t=>!(decide (2 < i) && !p.Not) && (mI p && (!(decide (i=0) && p.Not) && (!((decide (0 < i) && b) && !p.Not) && vX (i+1) p.Not t)))
theorem He:∀ (l:List az) (i:Nat),0 < i→vX i true l=(l.all mI && l.all fun p=>p.Not)
  | [],i,h=>rfl
  | p :: t,i,h=>by
    have h1:decide (i=0)=false:=decide_eq_false OY
    have a:decide (0 < i)=true:=decide_eq_true h
    unfold vX
    simp only[h1,a,px,hG,hI,hZ]
    cases hp:p.Not with
    | false=>cases mI p <;> simp
    | true=>
      rw[He t (i+1) OY]
      cases mI p <;> simp
theorem C1 (c:Nat):∀ (l:List az) (i:Nat),c≤i→eH c i l=(l.all mI && l.all fun p=>p.Not)
  | [],i,h=>rfl
  | p :: t,i,h=>by
    have h1:decide (c≤i)=true:=decide_eq_true h
    unfold eH
    rw[C1 c t (i+1) OY,h1]
    simp only[hZ]
    cases mI p <;> cases p.Not <;> simp
theorem oW:∀ (l:List az),(l.all fun p=>p.Not)=true↔ac l=0
  | []=>by simp[ac]
  | p :: t=>by
    unfold ac
    have:=oW t
    cases hp:p.Not with
    | true=>simp[hp];simpa using this
    | false=>simp[hp]
theorem Aw:∀ (l:List az) (i:Nat) (b:Bool),(0 < i→b=false)→i≤3→(vX i b l=true↔(i=0→l=[]∨0 < ac l)∧i+ac l≤3∧eH (i+ac l) i l=true)
  | [],i,b,g,j=>by simp[vX,ac,eH,j]
  | p :: t,i,b,g,j=>by
    have k:(decide (0 < i) && b)=false:=by
      by_cases h:0 < i
      · simp[g h]
      · simp[h]
    unfold vX eH ac
    rw[k]
    cases hp:p.Not with
    | true=>
      simp only[hC,vi,hG,hI,if_true,q7,px]
      by_cases f:i=0
      · subst f
        simp only[decide_true,hC,vi,px,gf,false_iff]
        rintro⟨h1,d,a⟩
        have h1:0 < ac t:=by simpa using h1
        simp only[gI,beq_iff_eq] at a
        have:=a.2.1
        simp at this
        omega
      · rw[decide_eq_false f,He t (i+1) OY]
        simp only[hG,hI,gI,beq_iff_eq,f,false_implies,true_and]
        constructor
        · rintro⟨h1,d,a⟩
          have c:=(oW t).1 a
          rw[c]
          refine⟨OY,h1,OZ,?_⟩
          rw[C1 _ t (i+1) OY,d,a];rfl
        · rintro⟨h1,d,a,c⟩
          have e:i+ac t≤i:=by simpa using a
          have m:ac t=0:=by omega
          exact⟨d,by
            rw[C1 _ t (i+1) OY] at c
            simp only[gI] at c
            exact c.1,(oW t).2 m⟩
    | false=>
      simp only[hG,q7,vi,hI,gf,if_false,gI,beq_iff_eq]
      have n:decide (i+(ac t+1)≤i)=false:=decide_eq_false OY
      rw[n]
      have o:i+(ac t+1)=i+1+ac t:=by omega
      by_cases d:2 < i
      · simp only[d,decide_true,hC,gf,false_and,false_iff]
        rintro⟨_,a,_⟩;omega
      · have:=Aw t (i+1) false (fun _=>rfl) OY
        simp only[d,decide_false,hG,true_and]
        rw[this,o]
        constructor
        · rintro⟨a,_,c,e⟩
          refine⟨fun _=>.inr OY,c,a,?_⟩
          first | exact⟨rfl,e⟩ | exact e
        · rintro⟨_,c,a,e⟩
          refine⟨a,OY,c,?_⟩
          first | exact e.2 | exact e
theorem H2 (l:List az):(vX 0 false l && (decide (1≤l.length) && decide (l.length≤6)))=gS l:=by
  have:=Aw l 0 false OZ OY
  simp only[true_implies,hA] at this
  rw[rs]
  unfold gS
  simp only[gI,decide_eq_true_eq,this]
  constructor
  · rintro⟨⟨h1,b,c⟩,a,d⟩
    have h1:=h1.resolve_left (by rintro rfl;simp at a)
    exact⟨⟨a,d⟩,⟨OY,b⟩,c⟩
  · rintro⟨⟨a,d⟩,⟨h1,b⟩,c⟩
    exact⟨⟨.inr OY,b,c⟩,a,d⟩
theorem LA {N:Nat} (f:1099000000000≤N) (l:List az) (r:l.length≤1048576) (hp:∀ p∈l,AK p):pS N l=some (gS l):=by
  have lp:∀ (n i:Nat) (b:Bool),i≤l.length→l.length - i < n→(∀ (h:i - 1 < l.length),0 < i→l[i - 1].Not=b)→fu N l n i=some (vX i b (l.drop i) && (decide (1≤l.length) && decide (l.length≤6))):=by
    intro n
    induction n with
    | zero=>intro i b _ h;omega
    | succ n g=>
      intro i b s t j
      by_cases a:i < l.length
      · have c1:decide ((i:Int) < (l.length:Int))=true:=decide_eq_true OY
        have c:decide ((2:Int) < (i:Int))=decide (2 < i):=by rw[decide_eq_decide];omega
        have k:decide ((i:Int)=0)=decide (i=0):=by rw[decide_eq_decide];omega
        have m:decide ((0:Int) < (i:Int))=decide (0 < i):=by rw[decide_eq_decide];omega
        rw[hn a]
        simp only[fu,c1,if_true,ag a,gb,Nf f _ (hp _ (hB a)),c,k,m,wr1 i OY,g (i+1) l[i].Not OY OY (fun h _=>rfl),vX]
        by_cases d:0 < i
        · have o:IntKind.i64.wrap ((i:Int) - 1)=((i - 1:Nat):Int):=by rw[wr OY OY];omega
          have q:=j OY d
          have e:decide (i=0)=false:=decide_eq_false OY
          simp only[d,decide_true,if_true,o,ag (show i - 1 < l.length by omega),gb,q,e]
          cases decide (2 < i) <;> cases l[i].Not <;> cases mI l[i] <;> cases b <;> simp
        · have e:decide (i=0)=true:=decide_eq_true OY
          simp only[d,decide_false,gf,if_false,gb,e]
          cases decide (2 < i) <;> cases l[i].Not <;> cases mI l[i] <;> simp
      · have c1:decide ((i:Int) < (l.length:Int))=false:=decide_eq_false OY
        have h1:decide ((1:Int)≤(l.length:Int))=decide (1≤l.length):=by rw[decide_eq_decide];omega
        have c:decide ((l.length:Int)≤6)=decide (l.length≤6):=by rw[decide_eq_decide];omega
        rw[hy OY]
        simp only[fu,c1,gf,if_false,in0,gb,h1,c];rfl
  unfold pS
  rw[show fu N l N 0=_ from lp N 0 false OY OY (fun _ h=>by omega),hQ,H2]
def pg (vs:List ByteArray) (c:cX):Bool:=qb c && (jA vs c.L && jA vs c.R)
theorem JB {N:Nat} (a:1099000000000≤N) (l:List cX) (vs:List ByteArray) (e:l.length≤1048576) (h:∀ c∈l,zz c) (b:vs.length≤4294967296):ow N l vs=some (l.all (pg vs) && decide (l.length≤6)):=by
  have d:decide ((l.length:Int)≤6)=decide (l.length≤6):=by rw[decide_eq_decide];omega
  unfold ow
  refine lp0 a l OY (fX N l vs) (fun t=>some (t.all (pg vs) && decide (l.length≤6))) (fun n i x t g1 g2 g3 g4 g5 g6 g7=>?_) (fun n i g1 g2=>?_)
  · simp only[fX,g5,if_true,g4,gb,MO a x (h x g2),BR a _ vs b,g6,g7,hZ,pg]
    cases qb x <;> cases jA vs x.L <;> cases jA vs x.R <;> simp
  · simp only[fX,g2,gf,if_false,d];rfl
def o2 (vs:List ByteArray) (e:d5):Bool:=jA vs e.L && jA vs e.R
def qO (vs:List ByteArray) (pos:Nat) (a:ei):Bool:=qx a && (!(decide (a.Kind=2) && decide ((pos:Int)≤a.N)) && a.Args.all (o2 vs))
theorem MS {N:Nat} (a:1099000000000≤N) (l:List ei) (vs:List ByteArray) (pos:Nat) (r:l.length≤1048576) (h:∀ c∈l,Ay c) (e:vs.length≤4294967296):qG N l vs pos=some (l.all (qO vs pos) && (decide (1≤l.length) && decide (l.length≤6))):=by
  have h1:decide ((1:Int)≤(l.length:Int))=decide (1≤l.length):=by rw[decide_eq_decide];omega
  have f:decide ((l.length:Int)≤6)=decide (l.length≤6):=by rw[decide_eq_decide];omega
  unfold qG
  refine lp0 a l OY (ed N l vs pos) (fun t=>some (t.all (qO vs pos) && (decide (1≤l.length) && decide (l.length≤6)))) (fun n i x t g1 g2 g3 g4 g5 g6 g7=>?_) (fun n i g1 g2=>?_)
  · have b:=h x g2
    have inner:=lp0 a x.Args (by have:=b.2.2.1;omega) (i8 N l vs i (ed N l vs pos n)) (fun u=>some (u.all (o2 vs) && (t.all (qO vs pos) && (decide (1≤l.length) && decide (l.length≤6))))) (fun g j y u k d s m o p q=>by
      simp only[i8,g4,gb,o,if_true,m,BR a _ vs e,p,q,hZ,o2]
      cases jA vs y.L <;> cases jA vs y.R <;> simp) (fun g j k d=>by
      simp only[i8,g4,gb,d,gf,if_false,g6,g7,K4,hI])
    simp only[ed,g5,if_true,g4,gb,N6 a x b,inner,hZ,qO]
    cases qx x <;> cases decide (x.Kind=2) <;> cases decide ((pos:Int)≤x.N) <;> simp[LL]
  · simp only[ed,g2,gf,if_false,in0,gb,h1,f];rfl
def BU (r:ah):Prop:=r.Name.size≤1048576∧(r.Pats.length≤1048576∧∀ p∈r.Pats,AK p)∧(r.Conds.length≤1048576∧∀ c∈r.Conds,zz c)∧(r.Acts.length≤1048576∧∀ a∈r.Acts,Ay a)∧l6 r.Pats≤1048576∧(r.Acts.map fun a=>a.Args.length).sum≤1048576
def iy (r:ah):Bool:=eD r.Name && ((decide (-100≤r.Sal) && decide (r.Sal≤100)) && (gS r.Pats && ((r.Conds.all (pg (jh r)) && decide (r.Conds.length≤6)) && (r.Acts.all (qO (jh r) (ac r.Pats)) && (decide (1≤r.Acts.length) && decide (r.Acts.length≤6))))))
theorem Lm {N:Nat} (a:1099000000000≤N) (r:ah) (h:BU r):qD N r=some (iy r):=by
  obtain⟨h1,⟨b,c⟩,⟨d,e⟩,⟨f,g⟩,h5,h6⟩:=h
  have l:=Aq h5
  unfold qD iy
  have i:=JB a _ (jh r) d e OY
  have j:=MS a _ (jh r) (ac r.Pats) f g OY
  have k:jC N r=some (jh r):=AP a r b h5 (fun p hp=>(c p hp).2.1)
  simp only[k,gb,rM a _ h1,in0,LA a _ b c,i,vY a r b,j,mL,LL]
def d8:List cX→List ByteArray
  | []=>[]
  | c :: t=>dm [c.L,c.R]++d8 t
def iH:List d5→List ByteArray
  | []=>[]
  | e :: t=>dm [e.L,e.R]++iH t
def dF:List ei→List ByteArray
  | []=>[]
  | a :: t=>iH a.Args++dF t
theorem uW:∀ (l:List cX),(d8 l).length≤2*l.length
  | []=>by simp[d8]
  | c :: t=>by have:=uW t;have:=jB [c.L,c.R];simp[d8] at *;omega
theorem uF:∀ (l:List d5),(iH l).length≤2*l.length
  | []=>by simp[iH]
  | c :: t=>by have:=uF t;have:=jB [c.L,c.R];simp[iH] at *;omega
def n9 (l:List ei):Nat:=(l.map fun a=>a.Args.length).sum
theorem vL:∀ (l:List ei),(dF l).length≤2*n9 l
  | []=>by simp[dF,n9]
  | a :: t=>by have:=vL t;have:=uF a.Args;simp[dF,n9] at *;omega
theorem Nk {N:Nat} (d:1099000000000≤N) (x:ei) (a:Nat) (K:List ByteArray→Int→Option (List ByteArray)) (l:List ei) (g:List ByteArray→Option (List ByteArray)) (s:List ByteArray) (p:s.length+2*x.Args.length≤4294967280) (q:x.Args.length≤1048576) (r:a≤1048576)
    (f:∀ b,b.length≤s.length+2*x.Args.length→K b ((a+1:Nat):Int)=g b):ff N a K x N s 0=g ((iH x.Args).foldl dR s):=by
  refine lp' d x.Args OY (ff N a K x) (fun t s=>g ((iH t).foldl dR s)) (fun u t=>u.length+2*t.length≤s.length+2*x.Args.length) s OY (fun n u i y t h1 e v h j k c m=>?_) (fun n u i h1 e c=>?_)
  · simp only[gj] at c
    have w:=ml (dm [y.L,y.R]) u
    have o:=jB [y.L,y.R]
    simp only[gj,gx] at o
    simp only[ff,j,if_true,h,gb,xf d [y.L,y.R] u (by simp;omega),k,iH,u0]
    exact m _ OY
  · simp only[ff,e,gf,if_false,wr1 a OY,iH]
    exact f u (by simpa using c)
theorem Lh {N:Nat} (d:1099000000000≤N) (r:ah) (o:r.Conds.length≤1048576) (j:r.Acts.length≤1048576) (l:∀ a∈r.Acts,a.Args.length≤1048576) (he:n9 r.Acts≤1048576):nj N r=some ((d8 r.Conds++dF r.Acts).foldl dR []):=by
  unfold nj
  have a2:∀ s:List ByteArray,s.length≤4194304→dM N r N s 0=some ((dF r.Acts).foldl dR s):=fun s p=>
    lp' d r.Acts OY (dM N r) (fun t s=>some ((dF t).foldl dR s)) (fun s t=>s.length+2*n9 t≤16777216) s OY (fun n u i x t h1 b m e f k c g=>by
      have q:u.length+2*(x.Args.length+n9 t)≤16777216:=by simpa[n9] using c
      simp only[dM,f,if_true,e,gb,dF,u0]
      exact Nk d x i (dM N r n) r.Acts (fun h=>some ((dF t).foldl dR h)) u OY (l x b) OY (fun h v=>g h OY)) (fun n u i h1 b c=>by simp only[dM,b,gf,if_false];rfl)
  refine lp' d r.Conds OY (gA N r) (fun t s=>some ((d8 t++dF r.Acts).foldl dR s)) (fun s t=>s.length+2*t.length≤4194304) [] (by simp;omega) (fun n u i x t h1 b m e f k c g=>?_) (fun n u i h1 b c=>?_)
  · simp only[gj] at c
    have w:=ml (dm [x.L,x.R]) u
    have j:=jB [x.L,x.R]
    simp only[gj,gx] at j
    simp only[gA,f,if_true,e,gb,xf d [x.L,x.R] u (by simp;omega),k,d8,gi]
    rw[u0]
    exact g _ OY
  · simp only[gA,b,gf,if_false,d8,ho]
    exact a2 u (by simpa using c)
theorem B5 (vs:List ByteArray) (a b:bZ):(jA vs a && jA vs b)=true↔∀ x∈dm [a,b],x∈vs:=by
  unfold jA
  simp only[ox,hK,List.not_mem_nil,or_false,gI,Bool.or_eq_true,Bool.not_eq_true',decide_eq_false_iff_not,decide_eq_true_eq]
  constructor
  · rintro⟨h1,e⟩ x ⟨c,rfl | rfl,d,rfl⟩
    · exact h1.resolve_left (fun h=>h d)
    · exact e.resolve_left (fun h=>h d)
  · intro h
    refine⟨?_,?_⟩
    · by_cases h1:a.K=1
      · exact .inr (h _ ⟨a,.inl rfl,h1,rfl⟩)
      · exact .inl h1
    · by_cases h1:b.K=1
      · exact .inr (h _ ⟨b,.inr rfl,h1,rfl⟩)
      · exact .inl h1
theorem uN (vs:List ByteArray):∀ (l:List cX),(∀ x∈d8 l,x∈vs)↔∀ c∈l,(jA vs c.L && jA vs c.R)=true
  | []=>by simp[d8]
  | c :: t=>by
    simp only[d8,gh,or_imp,forall_and,uN vs t,hK,forall_eq,B5]
theorem uz (vs:List ByteArray):∀ (l:List d5),(∀ x∈iH l,x∈vs)↔∀ c∈l,o2 vs c=true
  | []=>by simp[iH]
  | c :: t=>by
    simp only[iH,gh,or_imp,forall_and,uz vs t,hK,forall_eq,o2,B5]
theorem vU (vs:List ByteArray):∀ (l:List ei),(∀ x∈dF l,x∈vs)↔∀ a∈l,a.Args.all (o2 vs)=true
  | []=>by simp[dF]
  | c :: t=>by
    simp only[dF,gh,or_imp,forall_and,vU vs t,hK,forall_eq,uz,p1]
theorem Mk {N:Nat} (j:1099000000000≤N) (r:ah) (h:BU r):qf N r=some (iy r):=by
  obtain⟨h1,⟨l,p⟩,⟨q,s⟩,⟨u,o⟩,h5,h6⟩:=h
  have D:=Aq h5
  have v:mz N r=some (jh r):=GF j r l h5
  have w:=Lh j r q u (fun a y=>(o a y).2.2.1) h6
  have ul:((d8 r.Conds++dF r.Acts).foldl dR []).length≤4294967296:=by
    have k:=ml (d8 r.Conds++dF r.Acts) []
    have a2:=uW r.Conds
    have a3:=vL r.Acts
    have a4:n9 r.Acts≤1048576:=h6
    simp only[gk,gx] at k;omega
  have z:fE N (jh r) ((d8 r.Conds++dF r.Acts).foldl dR []) N 0=some (((d8 r.Conds++dF r.Acts).foldl dR []).all fun x=>decide (x∈jh r)):=
    lp0 j _ ul (fE N (jh r) _) (fun t=>some (t.all fun x=>decide (x∈jh r))) (fun n i x t g1 g2 g3 g4 g5 g6 g7=>by
      simp only[fE,g5,if_true,g4,gb,KK j _ x (show (jh r).length≤4294967296 by omega),g6,g7,hZ]
      cases decide (x∈jh r) <;> rfl) (fun n i g1 g2=>by simp only[fE,g2,gf,if_false];rfl)
  have A:fG N r N 0=some ((r.Acts.all fun a=>qx a && !(decide (a.Kind=2) && decide ((ac r.Pats:Int)≤a.N))) && ((d8 r.Conds++dF r.Acts).foldl dR []).all fun x=>decide (x∈jh r)):=
    lp0 j r.Acts OY (fG N r) (fun t=>some ((t.all fun a=>qx a && !(decide (a.Kind=2) && decide ((ac r.Pats:Int)≤a.N))) && ((d8 r.Conds++dF r.Acts).foldl dR []).all fun x=>decide (x∈jh r))) (fun n i x t g1 g2 g3 g4 g5 g6 g7=>by
      simp only[fG,g5,if_true,g4,gb,NC j x (o x g2),EJ j r l,g6,g7,hZ]
      cases qx x <;> cases decide (x.Kind=2) <;> cases decide ((ac r.Pats:Int)≤x.N) <;> simp) (fun n i g1 g2=>by
      simp only[fG,g2,gf,if_false,v,w,gb,z];rfl)
  have B:fy N r N 0=some (r.Conds.all qb && ((r.Acts.all fun a=>qx a && !(decide (a.Kind=2) && decide ((ac r.Pats:Int)≤a.N))) && ((d8 r.Conds++dF r.Acts).foldl dR []).all fun x=>decide (x∈jh r))):=
    lp0 j r.Conds OY (fy N r) (fun t=>some (t.all qb && ((r.Acts.all fun a=>qx a && !(decide (a.Kind=2) && decide ((ac r.Pats:Int)≤a.N))) && ((d8 r.Conds++dF r.Acts).foldl dR []).all fun x=>decide (x∈jh r)))) (fun n i x t g1 g2 g3 g4 g5 g6 g7=>by
      simp only[fy,g5,if_true,g4,gb,MQ j x (s x g2),g6,g7,hZ]
      cases qb x <;> simp) (fun n i g1 g2=>by
      simp only[fy,g2,gf,if_false,A];rfl)
  have d1:decide ((6:Int) < (r.Conds.length:Int)) = !decide (r.Conds.length≤6):=by rw[← decide_not,decide_eq_decide];omega
  have d2:decide ((1:Int)≤(r.Acts.length:Int))=decide (1≤r.Acts.length):=by rw[decide_eq_decide];omega
  have d3:decide ((r.Acts.length:Int)≤6)=decide (r.Acts.length≤6):=by rw[decide_eq_decide];omega
  have key:(r.Conds.all qb && ((r.Acts.all fun a=>qx a && !(decide (a.Kind=2) && decide ((ac r.Pats:Int)≤a.N))) && ((d8 r.Conds++dF r.Acts).foldl dR []).all fun x=>decide (x∈jh r)))=(r.Conds.all (pg (jh r)) && r.Acts.all (qO (jh r) (ac r.Pats))):=by
    rw[rs]
    have C:(((d8 r.Conds++dF r.Acts).foldl dR []).all fun x=>decide (x∈jh r))=true↔(∀ c∈r.Conds,(jA (jh r) c.L && jA (jh r) c.R)=true)∧∀ a∈r.Acts,a.Args.all (o2 (jh r))=true:=by
      rw[← uN,← vU]
      simp only[p1,decide_eq_true_eq,rX,List.not_mem_nil,false_or,gh,or_imp,forall_and]
    rw[gI,gI,gI,C]
    simp only[p1,pg,qO,gI,forall_and,and_imp]
    constructor
    · rintro⟨k,⟨a2,a3⟩,⟨a4,a5⟩,m⟩;exact⟨⟨k,a4,a5⟩,a2,a3,m⟩
    · rintro⟨⟨k,a4,a5⟩,a2,a3,m⟩;exact⟨k,⟨a2,a3⟩,⟨a4,a5⟩,m⟩
  unfold qf iy
  simp only[rU j _ h1,gb,in1,Md j r l p,d1,d2,d3,B,key]
  generalize eD r.Name=a;generalize gS r.Pats=b;generalize (decide (-100≤r.Sal) && decide (r.Sal≤100))=c;generalize decide (r.Conds.length≤6)=d;generalize (decide (1≤r.Acts.length) && decide (r.Acts.length≤6))=e
  generalize r.Conds.all (pg (jh r))=f;generalize r.Acts.all (qO (jh r) (ac r.Pats))=g
  cases a <;> cases b <;> cases c <;> cases d <;> cases e <;> cases f <;> cases g <;> rfl
theorem Cv {v:bn} (h:vV v):rG v=true:=by
  rcases h with ⟨n,h1,c,rfl⟩ | ⟨s,a,rfl⟩
  · have b:decide (-1000000000≤n)=true:=decide_eq_true OY
    have a2:decide (n≤1000000000)=true:=decide_eq_true OY
    unfold rG
    simp only[if_true,b,a2,kZ,Bool.and_self]
  · exact (show ∀ s∈([⟨#[97]⟩,⟨#[98]⟩]:List ByteArray),rG ⟨2,0,s⟩=true by decide) s a
def xyz:List ByteArray:=[⟨#[88]⟩,⟨#[89]⟩,⟨#[90]⟩,⟨#[88]⟩]
theorem B4:∀ s∈xyz,mo ⟨1,s,⟨0,0,⟨#[]⟩⟩⟩=true:=fun s a=>by
  unfold mo
  simp only[if_true,hJ,decide_true,q7]
  exact (show ∀ s∈xyz,AB s=true by decide) s a
theorem Gh:mo ⟨3,⟨#[]⟩,⟨0,0,⟨#[]⟩⟩⟩=true:=by
  unfold mo
  simp[kZ,hJ]
theorem AL {v:bn} (h:vV v):mo ⟨2,⟨#[]⟩,v⟩=true:=by
  unfold mo
  simp only[show ¬ (2:Int)=1 by omega,if_false,if_true,Cv h,kZ,Bool.and_self]
theorem HW {a:bZ} (h:Cu a):mo a=true:=by
  rcases h with rfl | ⟨v,b,rfl⟩ | ⟨s,c,rfl⟩
  · exact Gh
  · exact AL b
  · exact B4 s c
theorem CC {n:Bool} {p:az} (h:ri n p):mI p=true:=by
  obtain⟨_,h1,e,b⟩:=h
  have c:=(show ∀ s∈([⟨#[111,114,100,101,114]⟩,⟨#[112,97,105,100]⟩,⟨#[105,116,101,109]⟩,⟨#[111,114,100,101,114]⟩]:List ByteArray),eD s=true by decide) _ h1
  unfold mI
  rw[c,decide_eq_true OY,p1.2 fun a d=>HW (b a d)];rfl
theorem sW:∀ (u v:List az),ac (u++v)=ac u+ac v
  | [],v=>by simp[ac]
  | p :: t,v=>by
    have a:ac (p :: (t++v))=if p.Not then ac (t++v) else ac (t++v)+1:=rfl
    have b:ac (p :: t)=if p.Not then ac t else ac t+1:=rfl
    rw[List.cons_append,a,b,sW t v];split <;> omega
theorem uc:∀ (v:List az),(∀ p∈v,ri true p)→ac v=0
  | [],_=>rfl
  | p :: t,h=>by
    unfold ac
    rw[(h p OZ).1,if_pos rfl]
    exact uc t fun q a=>h q (by simp[a])
theorem sH:∀ (v:List az),(∀ p∈v,ri false p)→ac v=v.length
  | [],_=>rfl
  | p :: t,h=>by
    unfold ac
    rw[(h p OZ).1,sH t fun q a=>h q (by simp[a])];simp
theorem xv (c:Nat):∀ (v:List az) (i:Nat),c≤i→(∀ p∈v,ri true p)→eH c i v=true
  | [],i,_,_=>rfl
  | p :: t,i,a,h=>by
    unfold eH
    rw[CC (h p OZ),(h p OZ).1,decide_eq_true a,xv c t (i+1) OY fun q b=>h q (by simp[b])];rfl
theorem wl (c:Nat) (w:List az) (hw:∀ p∈w,ri true p):∀ (v:List az) (i:Nat),i+v.length=c→(∀ p∈v,ri false p)→eH c i (v++w)=true
  | [],i,a,_=>xv c w i (by simp at a;omega) hw
  | p :: t,i,a,h=>by
    simp only[gj] at a
    rw[List.cons_append]
    unfold eH
    rw[CC (h p OZ),(h p OZ).1,decide_eq_false OY,wl c w hw t (i+1) OY fun q b=>h q (by simp[b])];rfl
theorem w4 {l:List az} (h:lE l):1≤ac l∧ac l≤3:=by
  obtain⟨ps,ns,rfl,h1,c,d,a,b⟩:=h
  rw[sW,uc ns b,sH ps a];omega
theorem H6 {l:List az} (h:lE l):gS l=true:=by
  have a:=w4 h
  obtain⟨ps,ns,rfl,h1,d,f,b,c⟩:=h
  have e:ac (ps++ns)=ps.length:=by rw[sW,uc ns c,sH ps b];omega
  unfold gS
  rw[e] at a ⊢
  rw[wl _ ns c ps 0 OY b,decide_eq_true a.1,decide_eq_true a.2,gk,decide_eq_true (show 1≤ps.length+ns.length by omega),decide_eq_true (show ps.length+ns.length≤6 by omega)];rfl
theorem JA {l:List az} (h:lE l):∀ s∈bnd l,s∈xyz:=by
  intro s b
  have b:=(rX.1 b).resolve_left OZ
  have:∀ (l:List az),(∀ p∈l,∃ n,ri n p)→s∈dp l→s∈xyz:=by
    intro l
    induction l with
    | nil=>intro _ h;simp[dp] at h
    | cons p t d=>
      intro hp hm
      unfold dp at hm
      split at hm
      · exact d (fun q c=>hp q (by simp[c])) hm
      · rcases gh.1 hm with hm | hm
        · obtain⟨a,e,hk,rfl⟩:=ox.1 hm
          obtain⟨n,f⟩:=hp p OZ
          rcases f.2.2.2 a e with rfl | ⟨v,i,rfl⟩ | ⟨j,g,rfl⟩
          · simp at hk
          · simp at hk
          · exact g
        · exact d (fun q c=>hp q (by simp[c])) hm
  exact this l (pJ h) b
theorem uk {l:List az} (h:lE l) {a:bZ} (c:iT (bnd l) a):rI a=true∧jA (bnd l) a=true:=by
  rcases c with ⟨v,d,rfl⟩ | ⟨s,b,rfl⟩
  · refine⟨?_,by simp[jA]⟩
    unfold rI
    rw[AL d];rfl
  · refine⟨?_,by simp[jA,b]⟩
    unfold rI
    rw[B4 s (JA h s b)];rfl
theorem Il:om EA ⟨0,⟨#[]⟩,⟨0,0,⟨#[]⟩⟩⟩=true:=by rw[DC];exact decide_eq_true rfl
theorem Cz (vs:List ByteArray):jA vs EA=true:=by simp[jA,EA]
theorem Fl {l:List az} (h:lE l) {e:d5} (he:wg (iT (bnd l)) e):kI e=true∧o2 (bnd l) e=true:=by
  obtain⟨h1,c⟩:=he
  obtain⟨g1,d⟩:=uk h h1
  unfold kI o2
  rw[d,g1]
  rcases c with ⟨a,b⟩ | ⟨a,b⟩
  · rw[a,b,Il,Cz]
    exact⟨by simp[kZ],rfl⟩
  · obtain⟨g2,f⟩:=uk h b
    rw[g2,f]
    refine⟨?_,rfl⟩
    have:=(show ∀ s∈([⟨#[43]⟩,⟨#[45]⟩]:List ByteArray),seq s ⟨#[]⟩=false∧(seq s ⟨#[43]⟩ || seq s ⟨#[45]⟩)=true by simp only[lG];decide) _ a
    rw[this.1,this.2];rfl
theorem MC {l:List az} (h:lE l) {a:ei} (m:vK (iT (bnd l)) (ac l) a):qx a=true∧qO (bnd l) (ac l) a=true:=by
  obtain⟨h1,g,i⟩:=m
  have t:=w4 h
  have o:a.Args.all kI=true:=p1.2 fun e he=>(Fl h (g e he)).1
  have p:a.Args.all (o2 (bnd l))=true:=p1.2 fun e he=>(Fl h (g e he)).2
  have q:decide ((a.Args.length:Int)≤5)=true:=decide_eq_true OY
  have ok:qx a=true:=by
    unfold qx
    simp only[o,q]
    rcases i with ⟨k,n,as,b,d,u⟩ | ⟨k,n,as,c,u⟩ | ⟨k,nm,b,u⟩
    · have d:=d OY
      rw[k,n,as,u,decide_eq_true b,decide_eq_true (show a.N≤7 by omega)]
      simp[kZ]
    · rw[n,as,u,c]
      rcases k with k | k <;> rw[k] <;> simp[kZ]
    · have r:=(show ∀ s∈([⟨#[111,114,100,101,114]⟩,⟨#[112,97,105,100]⟩,⟨#[105,116,101,109]⟩,⟨#[115,104,105,112]⟩,⟨#[99,104,97,114,103,101]⟩]:List ByteArray),eD s=true by decide) _ nm
      rw[r]
      rcases k with k | k | k
      · have c:a.N=0:=b.resolve_right (fun h=>by have:=h.1;omega)
        have f:a.Undo=⟨#[]⟩:=u.resolve_right (fun h=>by have:=h.1;omega)
        rw[k,c,f];simp[kZ]
      · have c:a.N=0:=b.resolve_right (fun h=>by have:=h.1;omega)
        rw[k,c]
        rcases u with u | ⟨_,u⟩
        · rw[u];simp[kZ]
        · have:=(show ∀ s∈([⟨#[114,101,102,117,110,100]⟩,⟨#[99,97,110,99,101,108]⟩]:List ByteArray),eD s=true by decide) _ u
          rw[this];simp
      · have f:a.Undo=⟨#[]⟩:=u.resolve_right (fun h=>by have:=h.1;omega)
        have j:0≤a.N∧a.N≤100000:=by
          rcases b with b | ⟨_,b⟩
          · omega
          · simp at b;omega
        rw[k,f,decide_eq_true j.1,decide_eq_true j.2];simp[kZ]
  refine⟨ok,?_⟩
  unfold qO
  rw[ok,p]
  have:(decide (a.Kind=2) && decide ((ac l:Int)≤a.N))=false:=by
    rcases i with ⟨k,n,as,b,d,u⟩ | ⟨k,n,as,c,u⟩ | ⟨k,nm,b,u⟩
    · have d:=d OY
      rw[decide_eq_false (show ¬ (ac l:Int)≤a.N by omega)];simp
    · rw[decide_eq_false OY];rfl
    · rw[decide_eq_false OY];rfl
  rw[this];rfl
theorem JD {nm:ByteArray} (f:eD nm=true) {r:ah} (h:rn nm r):iy r=true:=by
  obtain⟨h1,h2,h3,⟨n,g⟩,h5,h6,h7⟩:=h
  have i:jh r=bnd r.Pats:=rfl
  have e : -100≤r.Sal∧r.Sal≤100:=by simp at h2;omega
  have b:r.Conds.all (pg (bnd r.Pats))=true:=p1.2 fun c b=>by
    obtain⟨c1,c2,j,k⟩:=g c b
    obtain⟨g1,l⟩:=uk h3 j
    obtain⟨g2,m⟩:=uk h3 k
    unfold pg qb
    rw[g1,g2,l,m,decide_eq_true c1,decide_eq_true c2];rfl
  have d:r.Acts.all (qO (bnd r.Pats) (ac r.Pats))=true:=p1.2 fun a d=>(MC h3 (h7 a d)).2
  unfold iy
  rw[h1,f,i,H6 h3,b,d,decide_eq_true e.1,decide_eq_true e.2,decide_eq_true (show r.Conds.length≤6 by omega),decide_eq_true h5,decide_eq_true (show r.Acts.length≤6 by omega)];rfl
def KG (d:bq):Prop:=d.Name.size≤16∧d.Rules.length≤16∧∀ r∈d.Rules,DU r
def nT:List ByteArray:=[⟨#[114,49]⟩,⟨#[114,50]⟩,⟨#[114,51]⟩,⟨#[114,52]⟩]
def CZ (d:bq):Prop:=d.Name∈([⟨#[102,108,111,119]⟩,⟨#[115,104,105,112]⟩,⟨#[120]⟩]:List ByteArray)∧1≤d.Rules.length∧d.Rules.length≤4∧∀ (i:Nat) (r:ah),d.Rules[i]?=some r→∃ nm,nT[i]?=some nm∧rn nm r
theorem GT:∀ s∈nT,s.size≤16:=by decide
theorem Dp {d:bq} (h:CZ d):KG d:=by
  obtain⟨h1,j,k,a⟩:=h
  refine⟨(show ∀ s∈([⟨#[102,108,111,119]⟩,⟨#[115,104,105,112]⟩,⟨#[120]⟩]:List ByteArray),s.size≤16 by decide) _ h1,OY,fun r b=>?_⟩
  obtain⟨i,c,e⟩:=List.getElem_of_mem b
  obtain⟨nm,f,g⟩:=a i r (by rw[gm c,e])
  exact H4 (GT nm (jt f)) g
theorem Nc {N:Nat} (t:1099000000000≤N) {b:List Int} (l:b.length≤1048576) {c:ab} (g:GC b c):Dr b CZ (oD N c):=by
  unfold oD
  refine (wn l g _ (by decide)).bind fun nm d gd u=>?_
  have lp:∀ (n i:Nat) (s:List ah) (x h:Int),i≤4→4 - i < n→s.length=i→(∀ (j:Nat) (r:ah),s[j]?=some r→∃ nm,nT[j]?=some nm∧rn nm r)→GC b ⟨c.b,x,h⟩→Dr b CZ (jn N c (nm,d) n s (i:Int) x h):=by
    intro n
    induction n with
    | zero=>intro i _ _ _ _ h;omega
    | succ n w=>
      intro i s x h F G H o k
      simp only[jn]
      refine (mO l k 4 OY).bind fun v e ge q=>?_
      dsimp only
      rw[wr (show -9223372036854775808≤1+v by omega) OY]
      by_cases h1:(i:Int) < 1+v∧i < 4
      · have m:decide ((i:Int) < 1+v)=true:=decide_eq_true h1.1
        have y:decide ((i:Int) < 4)=true:=decide_eq_true OY
        have z:idx nT (i:Int)=some (nT[i]'(by unfold nT;simp;omega)):=ag (by unfold nT;simp;omega)
        simp only[m,y,if_true,gb]
        refine .bindO z ((Mu t l (ge.at (c:=⟨c.b,x,h⟩) k.1) _).bind fun r f A qr=>.bindO (tP OY OZ) ?_)
        rw[wr1 i OY]
        refine w (i+1) _ _ _ OY OY (by simp;omega) ?_ (A.at (c:=⟨c.b,x,h⟩) k.1)
        intro j B a
        by_cases C:j < s.length
        · rw[oi C] at a;exact o j B a
        · rw[List.getElem?_append_right OY] at a
          have:j=i:=by
            have:=(List.getElem?_eq_some_iff.1 a).1
            simp at this;omega
          subst this
          have D:j - s.length=0:=by omega
          rw[D] at a
          simp at a
          subst a
          exact⟨_,gm _,qr⟩
      · have m:(if decide ((i:Int) < 1+v)=true then some (decide ((i:Int) < 4)) else some false)=some false:=by
          by_cases p:(i:Int) < 1+v
          · have E : ¬ (i:Int) < 4:=by omega
            simp[p,E]
          · simp[p]
        rw[m,gb]
        simp only[gf,if_false]
        exact .ret (ge.at (c:=⟨c.b,x,h⟩) k.1) ⟨u,by dsimp only;omega,by dsimp only;omega,o⟩
  exact lp N 0 [] _ _ OY OY rfl OZ (gd.at g.1)
def sN (l:List ah) (v:ByteArray):Int:=match l.findIdx? (fun r=>seq r.Name v) with | some j=>(j:Int) | none=>-1
theorem OM {N:Nat} (e:1099000000000≤N) (d:bq) (v:ByteArray) (f:d.Rules.length≤1048576):qQ N d v=some (sN d.Rules v):=by
  unfold qQ sN
  have a:=yQ (ia N d v) d.Rules OY (fun x=>seq x.Name v) (fun n i x c _ b hw=>by simp only[ia,b,if_true,c,gb,hw]) (fun n i b=>by simp only[ia,b,gf,if_false]) N 0 OY OY
  rw[show ((0:Nat):Int)=0 from rfl,hQ] at a
  rw[a]
  cases d.Rules.findIdx? (fun r=>seq r.Name v) <;> simp
theorem ON {N:Nat} (e:1099000000000≤N) (d:bq) (v:ByteArray) (f:d.Rules.length≤1048576):qS N d v=some (sN d.Rules v):=by
  unfold qS dT sN
  have b:=yQ (bh N d.Rules (fun a0=>jZ N a0 v)) d.Rules OY (fun x=>seq x.Name v) (fun n i x c _ a hw=>by simp only[bh,jZ,a,if_true,c,gb,hw]) (fun n i a=>by simp only[bh,a,gf,if_false]) N 0 OY OY
  rw[show ((0:Nat):Int)=0 from rfl,hQ] at b
  rw[b]
  cases d.Rules.findIdx? (fun r=>seq r.Name v) <;> simp
def iG (all:List ah):Nat→List ah→Bool
  | _,[]=>true
  | i,r :: t=>iy r && (decide (sN all r.Name=(i:Int)) && iG all (i+1) t)
def ji (d:bq):Bool:=eD d.Name && ((decide (1≤d.Rules.length) && decide (d.Rules.length≤12)) && iG d.Rules 0 d.Rules)
def sk (d:bq):Prop:=d.Name.size≤1048576∧d.Rules.length≤1048576∧∀ r∈d.Rules,BU r
theorem I7 {N:Nat} (a:1099000000000≤N) (d:bq) (h:sk d):nS N d=some (ji d):=by
  obtain⟨h1,c,e⟩:=h
  have lp:∀ (n i:Nat),i≤d.Rules.length→d.Rules.length - i < n→gQ N d n i=some (iG d.Rules i (d.Rules.drop i)):=by
    intro n
    induction n with
    | zero=>intro i _ h;omega
    | succ n f=>
      intro i j k
      by_cases b:i < d.Rules.length
      · have c1:decide ((i:Int) < (d.Rules.length:Int))=true:=decide_eq_true OY
        rw[hn b]
        simp only[gQ,c1,if_true,ag b,gb,Mk a _ (e _ (hB b)),ON a d _ c,wr1 i OY,f (i+1) OY OY,iG]
        cases iy d.Rules[i] <;> cases decide (sN d.Rules d.Rules[i].Name=(i:Int)) <;> simp
      · have c1:decide ((i:Int) < (d.Rules.length:Int))=false:=decide_eq_false OY
        rw[hy OY]
        simp only[gQ,c1,gf,if_false];rfl
  have g:=lp N 0 OY OY
  have d1:decide ((1:Int)≤(d.Rules.length:Int))=decide (1≤d.Rules.length):=by rw[decide_eq_decide];omega
  have d2:decide ((d.Rules.length:Int)≤12)=decide (d.Rules.length≤12):=by rw[decide_eq_decide];omega
  unfold nS ji
  simp only[rU a _ h1,gb,in1,d1,d2]
  rw[show gQ N d N 0=_ from g,hQ]
  cases eD d.Name <;> cases (decide (1≤d.Rules.length) && decide (d.Rules.length≤12)) <;> rfl
theorem Ny {N:Nat} (a:1099000000000≤N) (d:bq) (h:sk d):rY N d=some (ji d):=by
  obtain⟨h1,c,e⟩:=h
  have d1:decide ((1:Int)≤(d.Rules.length:Int))=decide (1≤d.Rules.length):=by rw[decide_eq_decide];omega
  have d2:decide ((d.Rules.length:Int)≤12)=decide (d.Rules.length≤12):=by rw[decide_eq_decide];omega
  have lp:∀ (n i:Nat),i≤d.Rules.length→d.Rules.length - i < n→gP N d n i=some (iG d.Rules i (d.Rules.drop i) && (eD d.Name && (decide (1≤d.Rules.length) && decide (d.Rules.length≤12)))):=by
    intro n
    induction n with
    | zero=>intro i _ h;omega
    | succ n f=>
      intro i j k
      by_cases b:i < d.Rules.length
      · have c1:decide ((i:Int) < (d.Rules.length:Int))=true:=decide_eq_true OY
        rw[hn b]
        simp only[gP,c1,if_true,ag b,gb,Lm a _ (e _ (hB b)),OM a d _ c,wr1 i OY,f (i+1) OY OY,iG]
        cases iy d.Rules[i] <;> cases decide (sN d.Rules d.Rules[i].Name=(i:Int)) <;> simp
      · have c1:decide ((i:Int) < (d.Rules.length:Int))=false:=decide_eq_false OY
        rw[hy OY]
        simp only[gP,c1,gf,if_false,rM a _ h1,in0,gb,d1,d2,mL,iG,hI]
  have g:=lp N 0 OY OY
  unfold rY ji
  rw[show gP N d N 0=_ from g,hQ]
  cases iG d.Rules 0 d.Rules <;> simp
theorem m9 {d:bq} (h:ji d=true):∀ r∈d.Rules,iy r=true:=by
  unfold ji at h
  simp only[gI] at h
  have:∀ (l:List ah) (i:Nat),iG d.Rules i l=true→∀ r∈l,iy r=true:=by
    intro l
    induction l with
    | nil=>intro i _ r a;cases a
    | cons x t c=>
      intro i b r a
      unfold iG at b
      simp only[gI] at b
      rcases hK.1 a with rfl | a
      · exact b.1
      · exact c _ b.2.2 r a
  exact this _ _ h.2.2
theorem H7:∀ s∈nT,eD s=true:=by decide
theorem El:∀ i,i < 4→∀ j,j < 4→i≠j→(nT[i]?.getD ⟨#[]⟩).data.toList≠(nT[j]?.getD ⟨#[]⟩).data.toList:=by decide
theorem GK (i:Nat) (a:i < 4) (j:Nat) (b:j < 4) (h:i≠j):seq (nT[i]?.getD ⟨#[]⟩) (nT[j]?.getD ⟨#[]⟩)=false:=by
  have:=El i a j b h
  rw[lG]
  exact decide_eq_false fun e=>this (by rw[e])
theorem CO {d:bq} (h:CZ d):ji d=true:=by
  obtain⟨h1,m,x,n⟩:=h
  have o:eD d.Name=true:=(show ∀ s∈([⟨#[102,108,111,119]⟩,⟨#[115,104,105,112]⟩,⟨#[120]⟩]:List ByteArray),eD s=true by decide) _ h1
  have p:∀ s:ByteArray,seq s s=true:=fun s=>kZ s
  have nm:∀ (i:Nat) (a:i < d.Rules.length),d.Rules[i].Name=nT[i]?.getD ⟨#[]⟩∧iy d.Rules[i]=true:=fun i a=>by
    obtain⟨nm,c,f⟩:=n i _ (gm a)
    exact⟨by rw[c,f.1];rfl,JD (H7 nm (jt c)) f⟩
  have at_:∀ (i:Nat) (a:i < d.Rules.length),sN d.Rules d.Rules[i].Name=(i:Int):=fun i a=>by
    have:d.Rules.findIdx? (fun r=>seq r.Name d.Rules[i].Name)=some i:=by
      rw[K5]
      refine⟨a,p _,fun j y=>?_⟩
      have q:j < d.Rules.length:=by omega
      rw[(nm j q).1,(nm i a).1,GK j OY i OY OY]
      simp
    unfold sN
    rw[this]
  have lp:∀ (t:List ah) (i:Nat),i+t.length=d.Rules.length→(∀ k,(hk:k < t.length)→d.Rules[i+k]?=some t[k])→iG d.Rules i t=true:=by
    intro t
    induction t with
    | nil=>intro i _ _;rfl
    | cons r t u=>
      intro i v hk
      simp only[gj] at v
      have a:i < d.Rules.length:=by omega
      have e:d.Rules[i]=r:=by
        have:=hk 0 OZ
        rw[l4,gm a] at this
        simpa using this
      have b:=u (i+1) OY (fun k w=>by have:=hk (k+1) (by simpa using w);rw[show i+1+k=i+(k+1) by omega,this];rfl)
      have g:=at_ i a
      have l:=(nm i a).2
      rw[e] at g l
      unfold iG
      rw[l,b,decide_eq_true g];rfl
  have b:=lp d.Rules 0 OY (fun k hk=>by rw[hA];exact gm hk)
  unfold ji
  rw[o,decide_eq_true m,decide_eq_true (show d.Rules.length≤12 by omega),b];rfl
def DR:List ByteArray:=[⟨#[111,114,100,101,114]⟩,⟨#[112,97,105,100]⟩,⟨#[105,116,101,109]⟩,⟨#[111,114,100,101,114]⟩]
def tC (f:aL):Prop:=f.Kind∈DR∧f.Fields.length≤5∧∀ v∈f.Fields,vV v
theorem Li {N:Nat} (z:1099000000000≤N) {b:List Int} (l:b.length≤1048576) {c:ab} (g:GC b c):Dr b tC (pX N c):=by
  unfold pX
  refine (wn l g _ (by decide)).bind fun k d gd hk=>?_
  have lp:∀ (m:Nat),m≤5→∀ (n i:Nat) (s:List bn) (x h:Int),i≤m→m - i < n→s.length=i→(∀ a∈s,vV a)→GC b ⟨c.b,x,h⟩→Dr b tC (kh N c (k,d) (m:Int) n s (i:Int) x h):=by
    intro m hm n
    induction n with
    | zero=>intro i _ _ _ _ h;omega
    | succ n u=>
      intro i s x h A B C p o
      simp only[kh]
      refine .ite (fun r=>?_) (fun D=>.ret o ⟨hk,by dsimp only;omega,p⟩)
      have r:=of_decide_eq_true r
      refine (BP l o).bind fun a e ge q=>.bindO (tP OY OZ) ?_
      rw[wr1 i OY]
      exact u (i+1) _ _ _ OY OY (by simp;omega) (qj p q) (ge.at (c:=⟨c.b,x,h⟩) o.1)
  have t:∀ (m:Nat),m≤5→Dr b tC (j6 N c (k,d) (m:Int)):=by
    intro m hm
    unfold j6 lQ
    refine (tO l (gd.at g.1) 12).bind fun v e ge _=>.ite (fun _=>?_) (fun _=>?_)
    · refine (mO l (ge.at g.1) 6 OY).bind fun w f y hw=>?_
      obtain⟨j,rfl⟩:∃ j:Nat,w=(j:Int):=⟨w.toNat,OY⟩
      exact lp j OY N 0 [] _ _ OY OY rfl OZ (y.at g.1)
    · exact lp m hm N 0 [] _ _ OY OY rfl OZ (ge.at g.1)
  exact .ite (fun _=>t 2 OY) (fun _=>t 1 OY)
theorem IS {N:Nat} (d:1099000000000≤N) (x y:List bn) (f:x.length≤4294967296):ju N x y=some (decide (x=y)):=by
  unfold ju
  by_cases c:x.length=y.length
  · rw[if_neg (by simp;omega)]
    refine (rq (eM N x y) x y c OY (fun a b=>some (decide (a=b))) (fun a _ b _=>rfl) (fun k i=>by simp only[eM,hJ,gb]) N 0 OY OY).trans ?_
    simp
  · rw[if_pos (by simp;omega)]
    have : ¬ x=y:=fun e=>c (by rw[e])
    simp[this]
theorem K7 {N:Nat} (e:1099000000000≤N) (x y:aL) (f:x.Fields.length≤4294967296):ng N x y=some (decide (x=y)):=by
  unfold ng
  simp only[IS e _ _ f,gb,mL,lG]
  obtain⟨a,b⟩:=x;obtain⟨c,d⟩:=y
  simp only[aL.mk.injEq,sY]
def zW (xs:List au) (f:aL):Int:=match xs.find? (fun x=>decide (x.F=f)) with | some x=>x.Id | none=>0
theorem wG (x:au) (xs:List au) (f:aL):zW (x :: xs) f=if x.F=f then x.Id else zW xs f:=by
  unfold zW
  rw[O1]
  by_cases h:x.F=f <;> simp[h]
theorem E6 {N:Nat} (b:1099000000000≤N) (s:af) (f:aL) (k:s.Items.length≤1048576) (c:∀ x∈s.Items,x.F.Fields.length≤1048576):qH N s f=some (zW s.Items f):=by
  unfold qH
  refine lp0 b s.Items OY (jD N s f) (fun t=>some (zW t f)) (fun n i x t h1 a l d e g j=>?_) (fun n i h1 a=>?_)
  · simp only[jD,e,if_true,d,gb,K7 b x.F f (by have:=c x a;omega),g,j,wG]
    by_cases h:x.F=f <;> simp[h]
  · simp only[jD,a,gf,if_false];rfl
def pr (nx:Int) (l:List au):Prop:=1≤nx∧(l.length:Int) < nx∧(∀ x∈l,1≤x.Id∧x.Id < nx∧tC x.F)∧l.Pairwise fun a b=>a.Id < b.Id∧a.F≠b.F
theorem xB {nx:Int} {l:List au} (h:pr nx l):∀ x∈l,x.F.Fields.length≤5:=fun x a=>(h.2.2.1 x a).2.2.2.1
theorem Lk {N:Nat} (d:1099000000000≤N) (s:af) (v:Int) (e:s.Items.length≤1048576):∃ q,pR N s v=some (q,⟨s.Items.filter fun x=>!decide (x.Id=v),s.Next⟩):=by
  unfold pR
  have:=lp' d s.Items OY (fun n (u:List au) i=>(fx N s v n u i).map (·.2)) (fun t u=>some ⟨u++t.filter fun x=>!decide (x.Id=v),s.Next⟩) (fun u t=>u.length+t.length≤1048576) [] (by simpa using e) (fun n u i x t g1 g2 g3 g4 g5 g6 a b=>by
    simp only[gj] at a
    simp only[fx,g5,if_true,g4,gb,g6,j8]
    by_cases h:x.Id=v
    · simp only[h,decide_true,hC,gf,if_false]
      exact b u OY
    · simp only[h,decide_false,hG,if_true,cg (show u.length+[x].length≤4294967296 by simp;omega),gb]
      rw[b _ (by simp;omega)];simp) (fun n u i g1 g2 a=>by simp only[fx,g2,gf,if_false,Cl,List.filter_nil,j5])
  simp only[ho] at this
  cases c:fx N s v N [] 0 with
  | none=>rw[c] at this;simp at this
  | some r=>
    rw[c] at this
    simp only[Cl,Option.some.injEq] at this
    exact⟨r.1,by rw[← this]⟩
def sS (f:aL):Bool:=eD f.Kind && (f.Fields.all rG && decide (f.Fields.length≤5))
def yX (f:aL):Prop:=f.Kind.size≤1048576∧f.Fields.length≤1048576∧∀ v∈f.Fields,v.S.size≤1048576
def pe (s:af):Prop:=s.Items.length≤1048576∧∀ x∈s.Items,yX x.F
def ip (done:List au) (v:Int):Bool:=match done.getLast? with | none=>true | some y=>decide (y.Id < v)
def m5 (nx:Int):List au→List au→Bool
  | _,[]=>true
  | done,x :: t=>(sS x.F && (decide (1≤x.Id) && decide (x.Id < nx))) && (ip done x.Id && ((done.all fun y=>!decide (x.F=y.F)) && m5 nx (done++[x]) t))
def iD (s:af):Bool:=(decide (1≤s.Next) && decide (s.Next≤1000000)) && (decide (s.Items.length≤40) && m5 s.Next [] s.Items)
theorem CA {α:Type} {xs:List α} {i:Nat} (h:0 < i) (a:i≤xs.length):(xs.take i).getLast?=some (xs[i - 1]'OY):=by
  rw[List.getLast?_eq_getElem?,k0,Nat.min_eq_left a,List.getElem?_take_of_lt OY,gm OY]
def zv:bn:=⟨0,0,⟨#[]⟩⟩
def vM (p:List aq) (n:ByteArray):bn × Bool:=match p.find? (fun b=>seq b.Name n) with
  | some b=>(b.V,true)
  | none=>(zv,false)
theorem AE (b:aq) (p:List aq) (n:ByteArray):vM (b :: p) n=if seq b.Name n=true then (b.V,true) else vM p n:=by
  unfold vM;rw[O1]
  cases seq b.Name n <;> simp
theorem IW {N:Nat} (c:1099000000000≤N) (p:List aq) (n:ByteArray) (d:p.length≤4294967296):nW N p n=some (vM p n):=by
  unfold nW
  have:∀ (k i:Nat),i≤p.length→p.length - i < k→j7 N p n k i=some (vM (p.drop i) n):=by
    intro k
    induction k with
    | zero=>intro i _ h;omega
    | succ k b=>
      intro i e hk
      simp only[j7]
      by_cases a:i < p.length
      · have c1:decide ((i:Int) < (p.length:Int))=true:=decide_eq_true OY
        rw[hn a,AE]
        simp only[c1,if_true,ag a,gb,wr1 i OY,b (i+1) OY OY]
        cases seq p[i].Name n <;> rfl
      · have c1:decide ((i:Int) < (p.length:Int))=false:=decide_eq_false OY
        simp only[c1,gf,if_false]
        rw[hy OY];rfl
  exact this N 0 OY OY
def ez (b0:List aq):List bZ→List bn→List aq→List aq × Bool
  | a :: as,v :: vs,s=>
    if a.K=2 then (if bp a.V v=true then ez b0 as vs s else (b0,false))
    else if a.K=1 then (if (vM s a.S).2=true then (if bp (vM s a.S).1 v=true then ez b0 as vs s else (b0,false)) else ez b0 as vs (s++[⟨a.S,v⟩]))
    else ez b0 as vs s
  | _,_,s=>(s,true)
theorem CD {N:Nat} (k:1099000000000≤N) (p:az) (f:aL) (b:List aq) (he:p.Args.length=f.Fields.length) (m:p.Args.length≤1048576) (o:b.length≤2147483648):∀ (n i:Nat) (s:List aq),i≤p.Args.length→p.Args.length - i < n→s.length≤2147483648+i →
    gE N p f b n s i=some (ez b (p.Args.drop i) (f.Fields.drop i) s):=by
  intro n
  induction n with
  | zero=>intro i s _ h;omega
  | succ n d=>
    intro i s q r t
    simp only[gE]
    by_cases e:i < p.Args.length
    · have c1:decide ((i:Int) < (p.Args.length:Int))=true:=decide_eq_true OY
      have g:i < f.Fields.length:=by omega
      rw[hn e,hn g,ez]
      simp only[c1,if_true,ag e,ag g,gb,IW k s _ (show s.length≤4294967296 by omega),gR (show b.length≤4294967296 by omega),cg (show s.length+[(⟨p.Args[i].S,f.Fields[i]⟩:aq)].length≤4294967296 by simp;omega),wr1 i OY,mL,orS]
      have c:=d (i+1) s OY OY OY
      have l:=d (i+1) (s++[⟨p.Args[i].S,f.Fields[i]⟩]) OY OY (by simp;omega)
      by_cases j:p.Args[i].K=2
      · have a : ¬ p.Args[i].K=1:=by omega
        simp only[j,a,decide_true,decide_false,if_true,if_false,hI,px,vj,gf,gb,show ¬ (2:Int)=1 by omega]
        cases bp p.Args[i].V f.Fields[i] with
        | true=>simpa using c
        | false=>simp
      · by_cases a:p.Args[i].K=1
        · simp only[a,decide_true,decide_false,if_true,if_false,hI,px,sX,gf,gb,show ¬ (1:Int)=2 by omega]
          cases (vM s p.Args[i].S).2 with
          | true=>
            simp only[if_true,hC,hI,gf,if_false]
            cases bp (vM s p.Args[i].S).1 f.Fields[i] with
            | true=>simpa using c
            | false=>simp
          | false=>simpa using l
        · simp only[a,j,decide_false,if_false,px,sX,vj,gf,gb]
          simpa using c
    · have c1:decide ((i:Int) < (p.Args.length:Int))=false:=decide_eq_false OY
      simp only[c1,gf,if_false]
      rw[hy OY]
      rfl
def aX (p:az) (f:aL) (b:List aq):List aq × Bool:=if seq p.Kind f.Kind=true∧p.Args.length=f.Fields.length then ez b p.Args f.Fields b else (b,false)
theorem y4 {N:Nat} (c:1099000000000≤N) (p:az) (f:aL) (b:List aq) (d:p.Args.length≤1048576) (e:b.length≤2147483648):iJ N p f b=some (aX p f b):=by
  unfold iJ aX
  rw[gR OY]
  simp only[gb,orS]
  cases hk:seq p.Kind f.Kind with
  | false=>simp
  | true=>
    by_cases he:p.Args.length=f.Fields.length
    · have a:decide ((p.Args.length:Int)=(f.Fields.length:Int))=true:=decide_eq_true OY
      have:=(CD c p f b he d e N 0 b OY OY OY)
      simp only[a,he,hC,vj,gf,if_false,true_and,if_true]
      simpa using this
    · have a:decide ((p.Args.length:Int)=(f.Fields.length:Int))=false:=decide_eq_false OY
      simp[a,he]
theorem rB {b0:List aq}:∀ (as:List bZ) (vs:List bn) (s:List aq),(ez b0 as vs s).1.length≤b0.length∨(ez b0 as vs s).1.length≤s.length+as.length
  | [],vs,s=>.inr (by simp[ez])
  | a :: as,[],s=>.inr (by simp[ez])
  | a :: as,v :: vs,s=>by
    have h1:=rB (b0:=b0) as vs s
    have b:=rB (b0:=b0) as vs (s++[⟨a.S,v⟩])
    simp only[gk,gj,gx] at h1 b ⊢
    unfold ez
    split
    · split
      · omega
      · exact .inl (hz _)
    · split
      · split
        · split
          · omega
          · exact .inl (hz _)
        · omega
      · omega
theorem jG (p:az) (f:aL) (b:List aq):(aX p f b).1.length≤b.length+p.Args.length:=by
  unfold aX
  split
  · have:=rB (b0:=b) p.Args f.Fields b;omega
  · simp
def tx (p:az) (l:List aq) (xs:List au):Nat:=xs.countP fun x=>(aX p x.F l).2
def iN (ps:List az) (xs:List au) (l:List aq):Bool:=ps.any fun p=>p.Not && xs.any fun x=>(aX p x.F l).2
theorem xS (p:az) (l:List aq) (xs:List au):tx p l xs≤xs.length:=List.countP_le_length
theorem Dg (p:az) (l:List aq) (xs:List au):decide ((0:Int) < (tx p l xs:Int))=xs.any fun x=>(aX p x.F l).2:=by
  rw[rs,decide_eq_true_eq,L2]
  have:(0:Int) < (tx p l xs:Int)↔0 < tx p l xs:=by omega
  rw[this,tx,List.countP_pos_iff]
theorem GL {N:Nat} (a:1099000000000≤N) (r:ah) (s:af) (l:List aq) (m:r.Pats.length≤1048576) (hp:∀ p∈r.Pats,p.Args.length≤1048576) (o:s.Items.length≤1048576) (c:l.length≤2147483648):oc N r s l=some (iN r.Pats s.Items l):=by
  unfold oc
  refine lp0 a r.Pats OY (d6 N r s l) (fun t=>some (iN t s.Items l)) (fun n i x t g1 g2 g3 g4 g5 g6 g7=>?_) (fun n i g1 g2=>?_)
  · simp only[d6,g5,if_true]
    have inner:eU N r s l i (d6 N r s l n) N 0=some ((x.Not && s.Items.any fun y=>(aX x y.F l).2) || iN t s.Items l):=by
      refine lp0 a s.Items OY (eU N r s l i (d6 N r s l n)) (fun u=>some ((x.Not && u.any fun y=>(aX x y.F l).2) || iN t s.Items l)) (fun d e y u f b q g h j k=>?_) (fun d e f b=>?_)
      · simp only[eU,h,if_true,g4,gb,g,y4 a x y.F l (hp x g2) c,j,k,g6,g7,List.any_cons]
        cases x.Not <;> cases (aX x y.F l).2 <;> simp
      · simp only[eU,b,gf,if_false,gb,g6,g7];simp
    rw[inner];unfold iN;rw[List.any_cons]
  · simp only[d6,g2,gf,if_false];rfl
def lI (a:bZ) (l:List aq):bn × Bool:=if a.K=2 then (a.V,true) else if a.K=1 then vM l a.S else (zv,false)
def Db (x y:bn):Bool:=if x.K=y.K then (if x.N=y.N then slt x.S y.S else decide (x.N < y.N)) else decide (x.K < y.K)
def holds (c:cX) (l:List aq):Bool:=((lI c.L l).2 && (lI c.R l).2) && (if c.Op=1 then decide ((lI c.L l).1=(lI c.R l).1) else if c.Op=2 then !decide ((lI c.L l).1=(lI c.R l).1) else if c.Op=3 then Db (lI c.L l).1 (lI c.R l).1 else false)
theorem CG {N:Nat} (c:1099000000000≤N) (a:bZ) (l:List aq) (d:l.length≤4294967296):nN N a l=some (lI a l):=by
  unfold nN lI
  rw[IW c l a.S d]
  by_cases b:a.K=2
  · simp[b]
  · by_cases h1:a.K=1 <;> simp[h1,b,zv]
theorem Jf (N:Nat) (x y:bn):oC N x y=some (Db x y):=by
  unfold oC Db
  by_cases h1:x.K=y.K
  · by_cases a:x.N=y.N <;> simp[h1,a]
  · simp[h1]
theorem Kb {N:Nat} (a:1099000000000≤N) (c:cX) (l:List aq) (b:l.length≤4294967296):ss N c l=some (holds c l):=by
  unfold ss holds
  rw[CG a c.L l b,CG a c.R l b]
  simp only[gb,Jf,hJ]
  cases (lI c.L l).2 with
  | false=>simp
  | true=>
    cases (lI c.R l).2 with
    | false=>simp
    | true=>
      by_cases h1:c.Op=1
      · simp[h1]
      · by_cases d:c.Op=2
        · simp[d]
        · by_cases e:c.Op=3 <;> simp[h1,d,e]
theorem Gx {N:Nat} (a:1099000000000≤N) (cs:List cX) (l:List aq) (j:cs.length≤4194304) (d:l.length≤4294967296):oH N cs l=some (cs.all fun c=>holds c l):=by
  unfold oH
  refine lp0 a cs OY (fO N cs l) (fun t=>some (t.all fun c=>holds c l)) (fun n i x t h1 b k e f g h=>?_) (fun n i h1 b=>?_)
  · simp only[fO,f,if_true,e,gb,Kb a x l d,g,h,hZ]
    cases holds x l <;> simp
  · simp only[fO,b,gf,if_false];rfl
def df (l:List az):Nat:=(l.map fun p=>p.Args.length).sum
theorem ef (p:az) (t:List az):df (p :: t)=p.Args.length+df t:=by simp[df]
theorem pA (n:Nat):∀ (l:List az),df (l.take n)≤df l:=by
  induction n with
  | zero=>intro l;simp[df]
  | succ n a=>
    intro l
    cases l with
    | nil=>simp
    | cons p t=>rw[List.take_succ_cons,ef,ef];have:=a t;omega
def jS (fin:List Int→List aq→List a7) (xs:List au):List az→List Int→List aq→List a7
  | [],ids,l=>fin ids l
  | p :: t,ids,l=>xs.flatMap fun x=>if (aX p x.F l).2=true then jS fin xs t (ids++[x.Id]) (aX p x.F l).1 else []
def wd (r:ah) (xs:List au) (ids:List Int) (l:List aq):List a7:=if (!iN r.Pats xs l && r.Conds.all fun c=>holds c l)=true then [⟨0,ids,l⟩] else []
def iw (r:ah) (xs:List au):List a7:=jS (wd r xs) xs (r.Pats.take (ac r.Pats)) [] []
theorem xz {α β:Type} {f:α→List β} {M:Nat}:∀ (l:List α),(∀ x∈l,(f x).length≤M)→(l.flatMap f).length≤l.length*M
  | [],_=>by simp
  | x :: t,h=>by
    have h1:=xz t fun y a=>h y (by simp[a])
    have b:=h x OZ
    rw[l0,gk,gj,hE];omega
theorem rD {fin:List Int→List aq→List a7} (a:∀ ids l,(fin ids l).length≤1) (xs:List au):∀ (ps:List az) (ids:List Int) (l:List aq),(jS fin xs ps ids l).length≤xs.length ^ ps.length
  | [],ids,l=>by simpa[jS] using a ids l
  | p :: t,ids,l=>by
    unfold jS
    rw[gj,Nat.pow_succ,Nat.mul_comm]
    refine xz xs fun x b=>?_
    split
    · exact rD a xs t _ _
    · exact ks _
theorem u7 (r:ah) (xs:List au) (ids:List Int) (l:List aq):(wd r xs ids l).length≤1:=by unfold wd;split <;> simp
structure tW (r:ah) (s:af):Prop where
  pl:r.Pats.length≤1048576
  pa:∀ p∈r.Pats,p.Args.length≤1048576
  sa:df r.Pats≤1048576
  cl:r.Conds.length≤1048576
  xl:s.Items.length≤1048576
  nm:s.Items.length ^ ac r.Pats≤1073741824
theorem Ci {fin:List Int→List aq→List a7} (a:∀ ids l,∀ m∈fin ids l,m.Ids=ids∧m.Binds=l) (xs:List au):∀ (ps:List az) (ids:List Int) (l:List aq),∀ m∈jS fin xs ps ids l,m.Ids.length=ids.length+ps.length∧m.Binds.length≤l.length+df ps
  | [],ids,l,m,hm=>by
    obtain⟨h1,b⟩:=a ids l m (by simpa[jS] using hm)
    rw[h1,b];simp
  | p :: t,ids,l,m,hm=>by
    unfold jS at hm
    obtain⟨x,c,hm⟩:=j1.1 hm
    split at hm
    · have h1:=Ci a xs t (ids++[x.Id]) (aX p x.F l).1 m hm
      have b:=jG p x.F l
      rw[ef]
      simp only[gk,gj,gx] at h1 ⊢
      omega
    · cases hm
theorem Jt (r:ah) (xs:List au):∀ ids l,∀ m∈wd r xs ids l,m.Ids=ids∧m.Binds=l:=by
  intro ids l m hm
  unfold wd at hm
  split at hm
  · simp at hm;rw[hm];exact⟨rfl,rfl⟩
  · cases hm
def pos (l:List az):List az:=l.filter fun p=>!p.Not
theorem qX:∀ (l:List az),df (pos l)≤df l
  | []=>by simp[pos]
  | p :: t=>by
    have:=qX t
    unfold pos at this ⊢
    rw[j8,ef]
    split
    · rw[ef];omega
    · omega
theorem BJ (l:List az):(l.filter fun p=>p.Not == false)=pos l:=by
  unfold pos;congr 1;funext p;cases p.Not <;> rfl
def DK:aL:=⟨⟨#[]⟩,[]⟩
def aH (xs:List au) (v:Int):aL × Bool:=match xs.find? (fun x=>decide (x.Id=v)) with | some x=>(x.F,true) | none=>(DK,false)
theorem kR (x:au) (xs:List au) (v:Int):aH (x :: xs) v=if x.Id=v then (x.F,true) else aH xs v:=by
  unfold aH
  rw[O1]
  by_cases h:x.Id=v <;> simp[h]
theorem DQ {xs:List au} (a:∀ x∈xs,x.F.Fields.length≤1048576) (v:Int):(aH xs v).1.Fields.length≤1048576:=by
  unfold aH
  split
  · rename_i x h;exact a x (D0 h)
  · simp[DK]
def aZ (xs:List au):List az→List Int→List aq→List aq × Bool
  | [],[],l=>(l,true)
  | p :: t,v :: ids,l=>if (aH xs v).2=true∧(aX p (aH xs v).1 l).2=true then aZ xs t ids (aX p (aH xs v).1 l).1 else ([],false)
  | _,_,_=>([],false)
theorem wU {xs:List au}:∀ {ps:List az} {ids:List Int} {l:List aq},ps.length≠ids.length→aZ xs ps ids l=([],false)
  | [],[],l,h=>absurd rfl h
  | [],v :: ids,l,h=>rfl
  | p :: t,[],l,h=>rfl
  | p :: t,v :: ids,l,h=>by
    unfold aZ
    split
    · exact wU (by simpa using h)
    · rfl
theorem vp {xs:List au}:∀ (ps:List az) (ids:List Int) (l:List aq),(aZ xs ps ids l).1.length≤l.length+df ps
  | [],[],l=>by simp[aZ]
  | [],v :: ids,l=>by simp[aZ]
  | p :: t,[],l=>by simp[aZ]
  | p :: t,v :: ids,l=>by
    have h1:=jG p (aH xs v).1 l
    have a:=vp (xs:=xs) t ids (aX p (aH xs v).1 l).1
    rw[ef]
    unfold aZ
    split
    · omega
    · simp
def jy:List Int→List Int→Bool
  | a :: x,b :: y=>if a=b then jy x y else decide (a < b)
  | _,_=>false
def mK (x y:a7):Bool:=if x.Rule=y.Rule then (if x.Ids.length=y.Ids.length then jy x.Ids y.Ids else decide (x.Ids.length < y.Ids.length)) else decide (x.Rule < y.Rule)
theorem Di:∀ (x y:List Int),(jy x y && jy y x)=false
  | [],_=>by simp[jy]
  | _ :: _,[]=>by simp[jy]
  | a :: x,b :: y=>by
    unfold jy
    by_cases h:a=b
    · simp only[h,if_true];exact Di x y
    · have c : ¬ b=a:=fun e=>h e.symm
      simp only[h,c,if_false]
      rw[← sY,decide_eq_false_iff_not];omega
theorem EG:∀ (x y:List Int),x.length=y.length→(jy x y || jy y x) = !decide (x=y)
  | [],[],_=>by simp[jy]
  | [],_ :: _,h=>by simp at h
  | _ :: _,[],h=>by simp at h
  | a :: x,b :: y,c=>by
    unfold jy
    by_cases h:a=b
    · subst h
      simp only[if_true,EG x y (by simpa using c),List.cons.injEq,true_and]
    · have d : ¬ b=a:=fun e=>h e.symm
      simp only[h,d,if_false,List.cons.injEq,false_and,decide_false,hG]
      rw[← Bool.decide_or,decide_eq_true_eq];omega
theorem FY (x y:a7):(mK x y && mK y x)=false:=by
  unfold mK
  by_cases a:x.Rule=y.Rule
  · by_cases b:x.Ids.length=y.Ids.length
    · simp only[a,b,if_true];exact Di _ _
    · have c : ¬ y.Ids.length=x.Ids.length:=fun e=>b e.symm
      simp only[a,b,c,if_true,if_false]
      rw[← sY,decide_eq_false_iff_not];omega
  · have d : ¬ y.Rule=x.Rule:=fun e=>a e.symm
    simp only[a,d,if_false]
    rw[← sY,decide_eq_false_iff_not];omega
theorem AF:∀ (x y z:List Int),jy x y=true→jy y z=true→x.length=y.length→y.length=z.length→jy x z=true
  | [],_,_,h,_,_,_=>by simp[jy] at h
  | a :: x,[],_,h,_,_,_=>by simp[jy] at h
  | a :: x,b :: y,[],_,h,_,_=>by simp[jy] at h
  | a :: x,b :: y,c :: z,h1,d,g,i=>by
    unfold jy at h1 d ⊢
    by_cases f:a=b
    · by_cases e:b=c
      · rw[if_pos f] at h1;rw[if_pos e] at d;rw[if_pos (f.trans e)]
        exact AF x y z h1 d (by simpa using g) (by simpa using i)
      · rw[if_neg e] at d;rw[if_neg OY]
        simp only[decide_eq_true_eq] at d ⊢;omega
    · rw[if_neg f] at h1
      simp only[decide_eq_true_eq] at h1
      by_cases e:b=c
      · rw[if_neg OY];simp only[decide_eq_true_eq];omega
      · rw[if_neg e] at d
        simp only[decide_eq_true_eq] at d
        rw[if_neg OY];simp only[decide_eq_true_eq];omega
theorem DO {x y z:a7} (h1:mK x y=true) (a:mK y z=true):mK x z=true:=by
  unfold mK at h1 a ⊢
  by_cases e:x.Rule=y.Rule
  · rw[if_pos e] at h1
    by_cases c:y.Rule=z.Rule
    · rw[if_pos c] at a
      rw[if_pos (e.trans c)]
      by_cases d:x.Ids.length=y.Ids.length
      · rw[if_pos d] at h1
        by_cases b:y.Ids.length=z.Ids.length
        · rw[if_pos b] at a
          rw[if_pos (d.trans b)]
          exact AF _ _ _ h1 a d b
        · rw[if_neg b] at a
          rw[if_neg OY]
          simp only[decide_eq_true_eq] at a ⊢;omega
      · rw[if_neg d] at h1
        simp only[decide_eq_true_eq] at h1
        by_cases b:y.Ids.length=z.Ids.length
        · rw[if_neg OY];simp only[decide_eq_true_eq];omega
        · rw[if_neg b] at a
          simp only[decide_eq_true_eq] at a
          rw[if_neg OY];simp only[decide_eq_true_eq];omega
    · rw[if_neg c] at a
      rw[if_neg OY]
      simp only[decide_eq_true_eq] at a ⊢;omega
  · rw[if_neg e] at h1
    simp only[decide_eq_true_eq] at h1
    by_cases c:y.Rule=z.Rule
    · rw[if_neg OY];simp only[decide_eq_true_eq];omega
    · rw[if_neg c] at a
      simp only[decide_eq_true_eq] at a
      rw[if_neg OY];simp only[decide_eq_true_eq];omega
def sE (xs:List au):Prop:=xs.Pairwise fun a b=>a.Id < b.Id
theorem z6 {x:au}:∀ {xs:List au},sE xs→x∈xs→aH xs x.Id=(x.F,true)
  | [],_,h=>by cases h
  | y :: t,hu,h=>by
    obtain⟨h1,a⟩:=List.pairwise_cons.1 hu
    rw[kR]
    rcases hK.1 h with rfl | h
    · rw[if_pos rfl]
    · have:=h1 x h
      rw[if_neg OY]
      exact z6 a h
theorem Ce {xs:List au} {v:Int} (h:(aH xs v).2=true):∃ x∈xs,x.Id=v∧aH xs v=(x.F,true):=by
  unfold aH at h ⊢
  cases a:xs.find? (fun x=>decide (x.Id=v)) with
  | none=>rw[a] at h;simp at h
  | some x=>
    have:=List.find?_some a
    exact⟨x,D0 a,by simpa using this,rfl⟩
theorem ur {fin:List Int→List aq→List a7} {xs:List au} (hu:sE xs):∀ (ps:List az) (ids:List Int) (l:List aq) (m:a7),m∈jS fin xs ps ids l→∃ a b,aZ xs ps a l=(b,true)∧m∈fin (ids++a) b
  | [],ids,l,m,h=>⟨[],l,rfl,by simpa[jS] using h⟩
  | p :: t,ids,l,m,h=>by
    unfold jS at h
    obtain⟨x,c,h⟩:=j1.1 h
    by_cases hm:(aX p x.F l).2=true
    · rw[if_pos hm] at h
      obtain⟨a,b,h1,d⟩:=ur hu t _ _ m h
      refine⟨x.Id :: a,b,?_,by simpa using d⟩
      have e:=z6 hu c
      unfold aZ
      rw[e]
      simp only[hm,and_self,if_true]
      exact h1
    · rw[if_neg hm] at h;cases h
theorem CP {fin:List Int→List aq→List a7} {xs:List au}:∀ (ps:List az) (a ids:List Int) (l b:List aq),aZ xs ps a l=(b,true)→∀ m∈fin (ids++a) b,m∈jS fin xs ps ids l
  | [],[],ids,l,b,h,m,hm=>by
    have:l=b:=by have:=congrArg Prod.fst h;simpa[aZ] using this
    subst this
    simpa[jS] using hm
  | [],v :: a,ids,l,b,h,m,hm=>by simp[aZ] at h
  | p :: t,[],ids,l,b,h,m,hm=>by simp[aZ] at h
  | p :: t,v :: a,ids,l,b,h,m,hm=>by
    unfold aZ at h
    split at h
    · rename_i c
      obtain⟨x,d,rfl,e⟩:=Ce c.1
      rw[e] at h c
      unfold jS
      refine j1.2 ⟨x,d,?_⟩
      rw[if_pos c.2]
      exact CP t a (ids++[x.Id]) _ b h m (by simpa using hm)
    · simp at h
theorem EO:∀ (p x y:List Int),jy (p++x) (p++y)=jy x y
  | [],x,y=>rfl
  | a :: p,x,y=>by
    show (if a=a then jy (p++x) (p++y) else decide (a < a))=jy x y
    rw[if_pos rfl]
    exact EO p x y
theorem vS {fin:List Int→List aq→List a7} {xs:List au} (hu:sE xs) (f:∀ ids l,(fin ids l).length≤1) (c:∀ ids l,∀ m∈fin ids l,m.Ids=ids):∀ (ps:List az) (ids:List Int) (l:List aq),(jS fin xs ps ids l).Pairwise fun a b=>jy a.Ids b.Ids=true
  | [],ids,l=>by
    unfold jS
    have:=f ids l
    match h:fin ids l with
    | []=>exact List.Pairwise.nil
    | [a]=>exact List.pairwise_singleton _ a
    | a :: b :: t=>rw[h] at this;simp at this
  | p :: t,ids,l=>by
    unfold jS
    rw[List.pairwise_flatMap]
    refine⟨fun x j=>?_,hu.imp fun {x y} g=>?_⟩
    · split
      · exact vS hu f c t _ _
      · exact List.Pairwise.nil
    · intro a d b e
      split at d
      · split at e
        · obtain⟨s1,k,_,h1⟩:=ur hu t _ _ a d
          obtain⟨s2,n,_,i⟩:=ur hu t _ _ b e
          rw[c _ _ a h1,c _ _ b i,gi,gi,EO,Pf,Pf]
          unfold jy
          rw[if_neg OY]
          simpa using g
        · cases e
      · cases d
theorem zb {xs:List au}:∀ (ps:List az) (ids:List Int) (l b:List aq),aZ xs ps ids l=(b,true)→ids.length=ps.length:=by
  intro ps ids l b h
  by_cases he:ps.length=ids.length
  · exact he.symm
  · rw[wU he] at h;simp at h
theorem Cb (r:ah) (xs:List au):∀ ids l,∀ m∈wd r xs ids l,m=⟨0,ids,l⟩∧(!iN r.Pats xs l && r.Conds.all fun c=>holds c l)=true:=by
  intro ids l m hm
  unfold wd at hm
  split at hm
  · rename_i a
    simp at hm;exact⟨hm,a⟩
  · cases hm
theorem sR {r:ah} {xs:List au} (hu:sE xs) {m:a7} (h:m∈iw r xs):m.Rule=0∧aZ xs (r.Pats.take (ac r.Pats)) m.Ids []=(m.Binds,true)∧(!iN r.Pats xs m.Binds && r.Conds.all fun c=>holds c m.Binds)=true:=by
  unfold iw at h
  obtain⟨e,b,h1,a⟩:=ur hu _ _ _ m h
  obtain⟨rfl,d⟩:=Cb r xs _ _ m a
  exact⟨rfl,by simpa using h1,d⟩
theorem GI {r:ah} {xs:List au} {ids:List Int} {b:List aq} (h:aZ xs (r.Pats.take (ac r.Pats)) ids []=(b,true)) (a:(!iN r.Pats xs b && r.Conds.all fun c=>holds c b)=true):(⟨0,ids,b⟩:a7)∈iw r xs:=by
  unfold iw
  refine CP _ ids [] [] b h _ ?_
  unfold wd
  rw[if_pos a];simp
theorem Ad {r:ah} {xs:List au} (hu:sE xs):(iw r xs).Pairwise fun a b=>mK a b=true:=by
  have h1:=vS hu (u7 r xs) (fun ids l m hm=>by rw[(Cb r xs ids l m hm).1]) (r.Pats.take (ac r.Pats)) [] []
  have c:∀ m∈iw r xs,m.Rule=0∧m.Ids.length=(r.Pats.take (ac r.Pats)).length:=fun m hm=>by
    obtain⟨a,b,_⟩:=sR hu hm
    exact⟨a,zb _ _ _ _ b⟩
  refine List.Pairwise.imp_of_mem (fun {a b} d e f=>?_) h1
  obtain⟨g,a2⟩:=c a d
  obtain⟨h,i⟩:=c b e
  unfold mK
  rw[if_pos (by rw[g,h]),if_pos (by rw[a2,i])]
  exact f
theorem GP {f:aL} (h:tC f):sS f=true:=by
  obtain⟨h1,a,b⟩:=h
  have c:=(show ∀ s∈DR,eD s=true by decide) _ h1
  unfold sS
  rw[c,decide_eq_true a,p1.2 fun v d=>Cv (b v d)];rfl
theorem Ge {f:aL} (h:tC f):yX f:=by
  obtain⟨h1,c,a⟩:=h
  have d:=(show ∀ s∈DR,s.size≤16 by decide) _ h1
  exact⟨OY,OY,fun v b=>by have:=zf (a v b);omega⟩
theorem CR {nx:Int}:∀ (t done:List au),(∀ x∈t,1≤x.Id∧x.Id < nx∧tC x.F)→(done++t).Pairwise (fun a b=>a.Id < b.Id∧a.F≠b.F)→m5 nx done t=true
  | [],done,_,_=>rfl
  | x :: t,done,h,hp=>by
    obtain⟨h1,f,g⟩:=h x OZ
    have d:=List.pairwise_append.1 hp
    have i:ip done x.Id=true:=by
      unfold ip
      cases j:done.getLast? with
      | none=>rfl
      | some y=>exact decide_eq_true (d.2.2 y (List.mem_of_getLast? j) x OZ).1
    have k:(done.all fun y=>!decide (x.F=y.F))=true:=p1.2 fun y c=>by
      have:=(d.2.2 y c x OZ).2
      rw[decide_eq_false fun e=>this e.symm];rfl
    unfold m5
    rw[GP g,decide_eq_true h1,decide_eq_true f,i,k,CR t (done++[x]) (fun y c=>h y (by simp[c])) (by simpa using hp)];rfl
theorem tg {a:bZ} (h:tY a):uK a:=by have:=h.1;have:=h.2;exact⟨OY,OY⟩
theorem HF {p:az} (h:Hd p):AK p:=by
  obtain⟨h1,d,b⟩:=h
  exact⟨OY,OY,fun a c=>tg (b a c)⟩
theorem Gv {c:cX} (h:I5 c):zz c:=⟨tg h.1,tg h.2⟩
theorem Gn {e:d5} (h:Ec e):yx e:=by
  obtain⟨h1,a,b⟩:=h
  exact⟨OY,tg a,tg b⟩
theorem Io {a:ei} (h:Hb a):Ay a:=by
  obtain⟨h1,d,b,e⟩:=h
  exact⟨OY,OY,OY,fun a c=>Gn (b a c)⟩
theorem AZ {B:Nat}:∀ {l:List ei},(∀ p∈l,p.Args.length≤B)→n9 l≤l.length*B
  | [],_=>by simp[n9]
  | p :: t,h=>by
    have h1:=AZ (l:=t) fun q a=>h q (by simp[a])
    have c:=h p OZ
    have b:n9 (p :: t)=p.Args.length+n9 t:=by simp[n9]
    rw[b,gj,hE];omega
theorem G9 {r:ah} (h:DU r):BU r:=by
  obtain⟨h1,⟨i,d⟩,⟨j,f⟩,h4,e⟩:=h
  have k:=yg (B:=16) fun p hp=>(d p hp).2.1
  have l:=AZ (B:=16) fun a b=>(e a b).2.1
  exact⟨OY,⟨OY,fun p hp=>HF (d p hp)⟩,⟨OY,fun c g=>Gv (f c g)⟩,⟨OY,fun a b=>Io (e a b)⟩,OY,by
    have:n9 r.Acts≤1048576:=by omega
    exact this⟩
theorem CQ {d:bq} (h:KG d):sk d:=by
  obtain⟨h1,c,a⟩:=h
  exact⟨OY,OY,fun r b=>G9 (a r b)⟩
def kH:List bZ→List bn
  | []=>[]
  | a :: t=>if a.K=2 then a.V :: kH t else kH t
def ats:Nat→List bZ→List Int
  | _,[]=>[]
  | i,a :: t=>if a.K=2 then (i:Int) :: ats (i+1) t else ats (i+1) t
def aT (p:az):ax:=⟨p.Kind,(p.Args.length:Int),kH p.Args,ats 0 p.Args⟩
theorem zm:∀ (l:List bZ),(kH l).length≤l.length
  | []=>by simp[kH]
  | a :: t=>by have:=zm t;unfold kH;split <;> simp <;> omega
theorem Fe:∀ (l:List bZ) (i:Nat),(ats i l).length≤l.length
  | [],_=>by simp[ats]
  | a :: t,i=>by have:=Fe t (i+1);unfold ats;split <;> simp <;> omega
theorem Jl {N:Nat} (c:1099000000000≤N) (p:az) (d:p.Args.length≤1048576):oB N p=some (aT p):=by
  have lp:∀ (n i:Nat) (cs:List bn) (as:List Int),i≤p.Args.length→p.Args.length - i < n→cs.length≤i→as.length≤i →
      fZ N p n cs as i=some ⟨p.Kind,(p.Args.length:Int),cs++kH (p.Args.drop i),as++ats i (p.Args.drop i)⟩:=by
    intro n
    induction n with
    | zero=>intro i _ _ _ h;omega
    | succ n a=>
      intro i cs as e f h1 g
      by_cases b:i < p.Args.length
      · have c1:decide ((i:Int) < (p.Args.length:Int))=true:=decide_eq_true OY
        rw[hn b]
        simp only[fZ,c1,if_true,ag b,gb,wr1 i OY,kH,ats]
        by_cases hk:p.Args[i].K=2
        · simp only[hk,decide_true,if_true,cg (show cs.length+[p.Args[i].V].length≤4294967296 by simp;omega),cg (show as.length+[(i:Int)].length≤4294967296 by simp;omega),gb]
          rw[a (i+1) _ _ OY OY (by simp;omega) (by simp;omega)];simp
        · simp only[hk,decide_false,gf,if_false]
          exact a (i+1) _ _ OY OY OY OY
      · have c1:decide ((i:Int) < (p.Args.length:Int))=false:=decide_eq_false OY
        rw[hy OY]
        simp only[fZ,c1,gf,if_false,kH,ats,j5]
  have:=lp N 0 [] [] OY OY OZ OZ
  unfold oB aT
  simpa using this
theorem Me (x y:bn):bp x y=decide (x=y):=hJ x y
def lh (a:ax):Prop:=a.Consts.length≤1048576∧a.At.length≤1048576
theorem BW {N:Nat} (d:1099000000000≤N) (x y:List Int) (f:x.length≤4294967296):co N x y=some (decide (x=y)):=by
  unfold co
  by_cases c:x.length=y.length
  · rw[if_neg (by simp;omega)]
    refine (rq (cW N x y) x y c OY (fun a b=>some (decide (a=b))) (fun a _ b _=>rfl) (fun k i=>rfl) N 0 OY OY).trans ?_
    simp
  · rw[if_pos (by simp;omega)]
    have : ¬ x=y:=fun e=>c (by rw[e])
    simp[this]
theorem M4 {N:Nat} (d:1099000000000≤N) (x y:List bn) (f:x.length≤4294967296):cE N x y=some (decide (x=y)):=by
  unfold cE
  by_cases c:x.length=y.length
  · rw[if_neg (by simp;omega)]
    refine (rq (bC N x y) x y c OY (fun a b=>some (decide (a=b))) (fun a _ b _=>rfl) (fun k i=>by simp only[bC,Me,gb]) N 0 OY OY).trans ?_
    simp
  · rw[if_pos (by simp;omega)]
    have : ¬ x=y:=fun e=>c (by rw[e])
    simp[this]
theorem EV {N:Nat} (i:1099000000000≤N) (x y:ax) (h:lh x):eF N x y=some (decide (x=y)):=by
  unfold eF
  simp only[BW i _ _ (show x.At.length≤4294967296 by have:=h.2;omega),M4 i _ _ (show x.Consts.length≤4294967296 by have:=h.1;omega),gb,mL,lG]
  obtain⟨a,b,c,d⟩:=x;obtain⟨e,f,g,k⟩:=y
  simp only[ax.mk.injEq,← sY,and_assoc]
def bR (as:List ax) (a:ax):Int × List ax:=match as.findIdx? (fun x=>decide (x=a)) with | some j=>((j:Int),as) | none=>((as.length:Int),as++[a])
def bV:List ax→List Int→List Int→List az→List ax × List Int × List Int
  | as,p,n,[]=>(as,p,n)
  | as,p,n,x :: t=>if x.Not then bV (bR as (aT x)).2 p (n++[(bR as (aT x)).1]) t else bV (bR as (aT x)).2 (p++[(bR as (aT x)).1]) n t
def eT:List ax→List aJ→List ah→cA
  | as,cs,[]=>⟨as,cs⟩
  | as,cs,r :: t=>eT (bV as [] [] r.Pats).1 (cs++[⟨(bV as [] [] r.Pats).2.1,(bV as [] [] r.Pats).2.2⟩]) t
def cS (d:bq):cA:=eT [] [] d.Rules
theorem vk {p:az} (h:p.Args.length≤1048576):lh (aT p):=by
  have h1:=zm p.Args
  have a:=Fe p.Args 0
  exact⟨by show (kH p.Args).length≤_;omega,by show (ats 0 p.Args).length≤_;omega⟩
theorem rh (as:List ax) (a:ax):(bR as a).2.length≤as.length+1∧as.length≤(bR as a).2.length:=by
  unfold bR
  split <;> simp
theorem tR {P:ax→Prop} {as:List ax} {a:ax} (h:∀ x∈as,P x) (b:P a):∀ x∈(bR as a).2,P x:=by
  unfold bR
  split
  · exact h
  · intro x c
    rcases gh.1 c with h1 | h1
    · exact h x h1
    · simp at h1;rw[h1];exact b
theorem tH {P:ax→Prop}:∀ (t:List az) (as:List ax) (p n:List Int),(∀ x∈as,P x)→(∀ x∈t,P (aT x))→∀ x∈(bV as p n t).1,P x
  | [],as,p,n,h,_=>h
  | x :: t,as,p,n,h,a=>by
    unfold bV
    have:=tR h (a x OZ)
    split
    · exact tH t _ _ _ this fun y b=>a y (by simp[b])
    · exact tH t _ _ _ this fun y b=>a y (by simp[b])
theorem tN:∀ (t:List az) (as:List ax) (p n:List Int),(bV as p n t).1.length≤as.length+t.length∧(bV as p n t).2.1.length+(bV as p n t).2.2.length=p.length+n.length+t.length
  | [],as,p,n=>by simp[bV]
  | x :: t,as,p,n=>by
    have h1:=(rh as (aT x)).1
    unfold bV
    split
    · have:=tN t (bR as (aT x)).2 p (n++[(bR as (aT x)).1])
      simp only[gk,gj,gx] at this ⊢
      omega
    · have:=tN t (bR as (aT x)).2 (p++[(bR as (aT x)).1]) n
      simp only[gk,gj,gx] at this ⊢
      omega
def o8 (l:List ah):Nat:=(l.map fun r=>r.Pats.length).sum
theorem nV (r:ah) (t:List ah):o8 (r :: t)=r.Pats.length+o8 t:=by simp[o8]
def yH (a:List ah):Prop:=a.length≤1048576∧o8 a≤1048576∧∀ r∈a,∀ p∈r.Pats,p.Args.length≤1048576
theorem Cr {B:Nat}:∀ {l:List ah},(∀ r∈l,r.Pats.length≤B)→o8 l≤l.length*B
  | [],_=>by simp[o8]
  | p :: t,h=>by
    have h1:=Cr (l:=t) fun q a=>h q (by simp[a])
    have b:=h p OZ
    rw[nV,gj,hE];omega
theorem vB {c:Nat}:∀ (l:List az) (i:Nat),eH c i l=true→∀ p∈l,mI p=true
  | [],_,_,p,hp=>by cases hp
  | x :: t,i,h,p,hp=>by
    unfold eH at h
    simp only[gI] at h
    rcases hK.1 hp with rfl | hp
    · exact h.1
    · exact vB t _ h.2.2 p hp
theorem nF {d:bq} (b:ji d=true):yH d.Rules:=by
  have h1:d.Rules.length≤12:=by
    unfold ji at b
    simp only[gI,decide_eq_true_eq] at b
    exact b.2.1.2
  have c:∀ r∈d.Rules,gS r.Pats=true:=fun r a=>by
    have:=m9 b r a
    unfold iy at this
    simp only[gI] at this
    exact this.2.2.1
  have f:∀ r∈d.Rules,r.Pats.length≤6:=fun r a=>by
    have:=c r a
    unfold gS at this
    simp only[gI,decide_eq_true_eq] at this
    exact this.1.2
  have g:=Cr f
  refine⟨OY,OY,fun r a p hp=>?_⟩
  have:=c r a
  unfold gS at this
  simp only[gI,decide_eq_true_eq] at this
  have e:=vB _ _ this.2.2 p hp
  unfold mI at e
  simp only[gI,decide_eq_true_eq] at e
  omega
theorem yU:∀ (l:List az),(l.filter fun x=>!x.Not).length+(l.filter fun x=>x.Not).length=l.length
  | []=>rfl
  | p :: t=>by
    have:=yU t
    simp only[j8]
    cases p.Not <;> simp <;> omega
theorem qh:∀ (l:List az),(l.filter fun x=>!x.Not).length=ac l
  | []=>rfl
  | p :: t=>by
    have:=qh t
    simp only[j8,ac]
    cases p.Not <;> simp[this]
theorem uB {c:Nat}:∀ (l:List az) (i:Nat),eH c i l=true→l.filter (fun x=>!x.Not)=l.take (c - i)
  | [],i,_=>by simp
  | p :: t,i,h=>by
    unfold eH at h
    simp only[gI,beq_iff_eq] at h
    have h1:=h.2.1
    have a:=uB t (i+1) h.2.2
    by_cases d:c≤i
    · rw[decide_eq_true d] at h1
      have e:c - i=0:=by omega
      have b:c - (i+1)=0:=by omega
      rw[e,List.take_zero,j8,h1]
      rw[b,List.take_zero] at a
      simpa using a
    · rw[decide_eq_false d] at h1
      obtain⟨k,hk⟩:∃ k,c - i=k+1:=⟨c - i - 1,OY⟩
      have b:c - (i+1)=k:=by omega
      rw[hk,List.take_succ_cons,j8,h1,← b,← a]
      simp
theorem tT {l:List az} (h:gS l=true):l.filter (fun x=>!x.Not)=l.take (ac l):=by
  unfold gS at h
  simp only[gI] at h
  have:=uB l 0 h.2.2
  simpa using this
def KW (n:cA):Prop:=(n.Alphas.length≤1048576∧∀ a∈n.Alphas,lh a)∧n.Chains.length≤1048576∧∀ c∈n.Chains,c.Pos.length≤1048576∧c.Neg.length≤1048576
theorem Df {as:List ax} {a:ax} (c:as.length≤4611686018427387900):idx (bR as a).2 (bR as a).1=some a:=by
  unfold bR
  split
  · rename_i j h
    rw[K5] at h
    obtain⟨b,h1,_⟩:=h
    simp only[ag b]
    simpa using h1
  · simp only
    rw[ag OZ]
    simp
theorem JR {α:Type} {xs b:List α} {i:Int} {a:α} (h:idx xs i=some a):idx (xs++b) i=some a:=by
  obtain⟨c,h1,e⟩:=a8 h
  unfold idx
  rw[if_pos c,oi OY]
  exact e
theorem Cs (as:List ax) (a:ax):∃ u,(bR as a).2=as++u:=by
  unfold bR
  split
  · exact⟨[],OZ⟩
  · exact⟨[a],rfl⟩
theorem zX {as:List ax} {a:ax} (h:as.Nodup):(bR as a).2.Nodup:=by
  unfold bR
  split
  · exact h
  · rename_i b
    rw[Pe] at b
    refine List.nodup_append.2 ⟨h,OZ,?_⟩
    intro x d y c e
    simp at c;subst c;subst e
    have:=b x d
    simp at this
def At (A:List ax):List Int→List az→Prop
  | [],[]=>True
  | i :: l,p :: t=>idx A i=some (aT p)∧At A l t
  | _,_=>False
theorem At.ext {A u:List ax}:∀ {l:List Int} {t:List az},At A l t→At (A++u) l t
  | [],[],_=>trivial
  | i :: l,p :: t,h=>⟨JR h.1,h.2.ext⟩
theorem At.snoc {A:List ax} {i:Int} {p:az} (a:idx A i=some (aT p)):∀ {l:List Int} {t:List az},At A l t→At A (l++[i]) (t++[p])
  | [],[],_=>⟨a,trivial⟩
  | i :: l,p :: t,h=>⟨h.1,h.2.snoc a⟩
theorem At.len {A:List ax}:∀ {l:List Int} {t:List az},At A l t→l.length=t.length
  | [],[],_=>rfl
  | i :: l,p :: t,h=>by simp[h.2.len]
theorem At.get {A:List ax}:∀ {l:List Int} {t:List az},At A l t→∀ (k:Nat) (h1:k < l.length) (a:k < t.length),idx A l[k]=some (aT t[k])
  | [],[],_,k,h1,_=>by simp at h1
  | i :: l,p :: t,h,0,_,_=>h.1
  | i :: l,p :: t,h,k+1,h1,a=>h.2.get k (by simpa using h1) (by simpa using a)
theorem vo:∀ (t:List az) (as:List ax) (p n:List Int) (pp b:List az),as.length+t.length≤4194304→as.Nodup→At as p pp→At as n b →
    (∃ u,(bV as p n t).1=as++u)∧(bV as p n t).1.Nodup∧At (bV as p n t).1 (bV as p n t).2.1 (pp++t.filter fun x=>!x.Not)∧At (bV as p n t).1 (bV as p n t).2.2 (b++t.filter fun x=>x.Not)
  | [],as,p,n,pp,b,_,c,h1,d=>⟨⟨[],by simp[bV]⟩,c,by simpa[bV] using h1,by simpa[bV] using d⟩
  | x :: t,as,p,n,pp,b,k,c,h1,d=>by
    simp only[gj] at k
    obtain⟨u,hu⟩:=Cs as (aT x)
    have l:=(rh as (aT x)).1
    have f:=Df (as:=as) (a:=aT x) OY
    have g:=zX (a:=aT x) c
    have h:At (bR as (aT x)).2 p pp:=by rw[hu];exact h1.ext
    have i:At (bR as (aT x)).2 n b:=by rw[hu];exact d.ext
    unfold bV
    cases j:x.Not with
    | true=>
      simp only[if_true,j8,j,hC,gf,if_false]
      obtain⟨⟨w,e⟩,g1,g2,g3⟩:=vo t _ p (n++[(bR as (aT x)).1]) pp (b++[x]) OY g h (i.snoc f)
      exact⟨⟨u++w,by rw[e,hu,gi]⟩,g1,g2,by simpa using g3⟩
    | false=>
      simp only[gf,if_false,j8,j,hG,if_true]
      obtain⟨⟨w,e⟩,g1,g2,g3⟩:=vo t _ (p++[(bR as (aT x)).1]) n (pp++[x]) b OY g (h.snoc f) i
      exact⟨⟨u++w,by rw[e,hu,gi]⟩,g1,by simpa using g2,g3⟩
def Ats (A:List ax):List aJ→List ah→Prop
  | [],[]=>True
  | c :: l,r :: t=>(At A c.Pos (r.Pats.filter fun x=>!x.Not)∧At A c.Neg (r.Pats.filter fun x=>x.Not))∧Ats A l t
  | _,_=>False
theorem Ats.ext {A u:List ax}:∀ {l:List aJ} {t:List ah},Ats A l t→Ats (A++u) l t
  | [],[],_=>trivial
  | i :: l,p :: t,h=>⟨⟨h.1.1.ext,h.1.2.ext⟩,h.2.ext⟩
theorem Ats.snoc {A:List ax} {c:aJ} {r:ah} (a:At A c.Pos (r.Pats.filter fun x=>!x.Not)∧At A c.Neg (r.Pats.filter fun x=>x.Not)):∀ {l:List aJ} {t:List ah},Ats A l t→Ats A (l++[c]) (t++[r])
  | [],[],_=>⟨a,trivial⟩
  | i :: l,p :: t,h=>⟨h.1,h.2.snoc a⟩
theorem Ats.len {A:List ax}:∀ {l:List aJ} {t:List ah},Ats A l t→l.length=t.length
  | [],[],_=>rfl
  | i :: l,p :: t,h=>by simp[h.2.len]
theorem Ats.get {A:List ax}:∀ {l:List aJ} {t:List ah},Ats A l t→∀ (k:Nat) (h1:k < l.length) (a:k < t.length),At A l[k].Pos (t[k].Pats.filter fun x=>!x.Not)∧At A l[k].Neg (t[k].Pats.filter fun x=>x.Not)
  | [],[],_,k,h1,_=>by simp at h1
  | i :: l,p :: t,h,0,_,_=>h.1
  | i :: l,p :: t,h,k+1,h1,a=>h.2.get k (by simpa using h1) (by simpa using a)
theorem xm:∀ (t:List ah) (as:List ax) (cs:List aJ) (a:List ah),as.length+o8 t≤4194304→as.Nodup→Ats as cs a →
    (eT as cs t).Alphas.Nodup∧Ats (eT as cs t).Alphas (eT as cs t).Chains (a++t)∧(eT as cs t).Alphas.length≤as.length+o8 t
  | [],as,cs,a,_,b,h=>⟨b,by simpa[eT] using h,by simp[eT,o8]⟩
  | r :: t,as,cs,a,c,b,h=>by
    rw[nV] at c
    obtain⟨⟨u,e⟩,g1,g2,g3⟩:=vo r.Pats as [] [] [] [] OY b trivial trivial
    have d:=(tN r.Pats as [] []).1
    have:=xm t (bV as [] [] r.Pats).1 (cs++[⟨(bV as [] [] r.Pats).2.1,(bV as [] [] r.Pats).2.2⟩]) (a++[r]) OY g1 (Ats.snoc ⟨by simpa using g2,by simpa using g3⟩ (by rw[e];exact h.ext))
    unfold eT
    rw[nV]
    refine⟨this.1,by simpa using this.2.1,by have:=this.2.2;omega⟩
theorem ud {d:bq} (h:yH d.Rules):(cS d).Alphas.Nodup∧Ats (cS d).Alphas (cS d).Chains d.Rules∧(cS d).Alphas.length≤o8 d.Rules:=by
  have a:=h.2.1
  have:=xm d.Rules [] [] [] (by simp;omega) OZ trivial
  unfold cS
  refine⟨this.1,by simpa using this.2.1,by simpa using this.2.2⟩
theorem KC {A:List ax} {l:List aJ} {t:List ah} (h:Ats A l t):∀ c∈l,∃ r∈t,c.Pos.length+c.Neg.length=r.Pats.length:=by
  intro c b
  obtain⟨k,hk,rfl⟩:=List.getElem_of_mem b
  have a:k < t.length:=by rw[← h.len];exact hk
  have:=h.get k hk a
  exact⟨_,hB a,by rw[this.1.len,this.2.len,yU]⟩
theorem vD {P:ax→Prop}:∀ (t:List ah) (as:List ax) (cs:List aJ),(∀ x∈as,P x)→(∀ r∈t,∀ p∈r.Pats,P (aT p))→∀ x∈(eT as cs t).Alphas,P x
  | [],as,cs,h,_=>h
  | r :: t,as,cs,h,a=>by
    unfold eT
    exact vD t _ _ (tH r.Pats as [] [] h (a r OZ)) fun q b=>a q (by simp[b])
theorem AC:∀ {l:List ah} {r:ah},r∈l→r.Pats.length≤o8 l
  | x :: t,r,h=>by
    rw[nV]
    rcases hK.1 h with rfl | h
    · omega
    · have:=AC h;omega
theorem tp {d:bq} (h:yH d.Rules):KW (cS d):=by
  obtain⟨h1,b,j⟩:=ud h
  obtain⟨f,k,g⟩:=h
  refine⟨⟨OY,vD d.Rules [] [] OZ fun r a p hp=>vk (g r a p hp)⟩,by rw[b.len];exact f,fun c i=>?_⟩
  obtain⟨r,a,e⟩:=KC b c i
  have:=AC a
  omega
theorem GN {N:Nat} (c:1099000000000≤N) (as:List ax) (cs:List aJ) (p:az) (hp:p.Args.length≤1048576) (f:as.length≤4194304) (h:∀ a∈as,lh a) :
    jP N ⟨as,cs⟩ p=some ((bR as (aT p)).1,⟨(bR as (aT p)).2,cs⟩):=by
  unfold jP
  rw[Jl c p hp,gb]
  have lp:∀ (n i:Nat),i≤as.length→as.length - i < n→dJ N ⟨as,cs⟩ (aT p) n i =
      some (match (as.drop i).findIdx? (fun x=>decide (x=aT p)) with | some j=>((i+j:Nat):Int) | none=>(as.length:Int),⟨match (as.drop i).findIdx? (fun x=>decide (x=aT p)) with | some j=>as | none=>as++[aT p],cs⟩):=by
    intro n
    induction n with
    | zero=>intro i _ h;omega
    | succ n d=>
      intro i g k
      by_cases b:i < as.length
      · have c1:decide ((i:Int) < (as.length:Int))=true:=decide_eq_true OY
        rw[hn b,List.findIdx?_cons]
        simp only[dJ,c1,if_true,ag b,gb,EV c _ _ (h _ (hB b)),wr1 i OY,d (i+1) OY OY]
        by_cases he:as[i]=aT p
        · simp[he]
        · simp only[he,decide_false,gf,if_false]
          cases (as.drop (i+1)).findIdx? (fun x=>decide (x=aT p)) with
          | none=>rfl
          | some j=>simp only[Cl];rw[show i+(j+1)=i+1+j by omega]
      · have c1:decide ((i:Int) < (as.length:Int))=false:=decide_eq_false OY
        rw[hy OY]
        simp only[dJ,c1,gf,if_false,cg (show as.length+[aT p].length≤4294967296 by simp;omega),gb,List.findIdx?_nil]
        have e:IntKind.i64.wrap (((as++[aT p]).length:Int) - 1)=(as.length:Int):=by
          rw[wr (by simp only[gk,gj,gx];omega) (by simp only[gk,gj,gx];omega)];simp only[gk,gj,gx];omega
        rw[e]
  have:=lp N 0 OY OY
  rw[show ((0:Nat):Int)=0 from rfl,hQ] at this
  rw[this]
  unfold bR
  cases as.findIdx? (fun x=>decide (x=aT p)) <;> simp
theorem FN {N:Nat} (c:1099000000000≤N) (d:bq) (h:yH d.Rules):pE N d=some (cS d):=by
  obtain⟨h1,v,w⟩:=h
  unfold pE cS
  refine lp' c d.Rules OY (fun n (s:List ax × List aJ) i=>fH N d n s.1 s.2 i) (fun t s=>some (eT s.1 s.2 t)) (fun s t=>s.1.length+o8 t≤1048576∧s.2.length+t.length≤1048576∧∀ a∈s.1,lh a) ([],[]) ⟨by simpa using v,by simpa using h1,OZ⟩ (fun n s i r t g1 g2 g3 g4 g5 g6 g x=>?_) (fun n s i g1 g2 g=>?_)
  · obtain⟨y,i2,i3⟩:=g
    rw[nV] at y
    simp only[gj] at i2
    simp only[fH,g5,if_true,g4,gb,eT]
    have key:∀ (as:List ax),as.length+r.Pats.length+o8 t≤1048576→(∀ a∈as,lh a)→gL N s.2 (i:Int) (fH N d n) r N as [] [] 0=some (eT (bV as [] [] r.Pats).1 (s.2++[⟨(bV as [] [] r.Pats).2.1,(bV as [] [] r.Pats).2.2⟩]) t):=by
      intro as z A
      refine lp' c r.Pats OY (fun m (u:List ax × List Int × List Int) k=>gL N s.2 (i:Int) (fH N d n) r m u.1 u.2.1 u.2.2 k) (fun l u=>some (eT (bV u.1 u.2.2 u.2.1 l).1 (s.2++[⟨(bV u.1 u.2.2 u.2.1 l).2.1,(bV u.1 u.2.2 u.2.1 l).2.2⟩]) t))
        (fun u l=>u.1.length+l.length+o8 t≤1048576∧u.2.1.length+u.2.2.length+l.length≤1048576∧∀ a∈u.1,lh a) (as,[],[]) ⟨z,by simp;omega,A⟩ (fun m u k p l f1 f2 f3 f4 f5 f6 e j=>?_) (fun m u k f1 f2 e=>?_)
      · obtain⟨f,o,b⟩:=e
        simp only[gj] at f o
        have hp:=w r g2 p f2
        have B:=(rh u.1 (aT p)).1
        have q:=tR b (vk hp)
        simp only[gL,f5,if_true,f4,gb,GN c u.1 s.2 p hp OY b,f6,bV]
        cases C:p.Not with
        | true=>
          simp only[if_true,cg (show u.2.1.length+[(bR u.1 (aT p)).1].length≤4294967296 by simp;omega),gb]
          exact j ((bR u.1 (aT p)).2,u.2.1++[(bR u.1 (aT p)).1],u.2.2) ⟨by simp only;omega,by simp;omega,q⟩
        | false=>
          simp only[gf,if_false,cg (show u.2.2.length+[(bR u.1 (aT p)).1].length≤4294967296 by simp;omega),gb]
          exact j ((bR u.1 (aT p)).2,u.2.1,u.2.2++[(bR u.1 (aT p)).1]) ⟨by simp only;omega,by simp;omega,q⟩
      · obtain⟨f,o,b⟩:=e
        simp only[gL,f2,gf,if_false,cg (show s.2.length+[(⟨u.2.2,u.2.1⟩:aJ)].length≤4294967296 by simp;omega),gb,g6,bV]
        exact x (u.1,s.2++[⟨u.2.2,u.2.1⟩]) ⟨by simp only[gx] at f ⊢;omega,by simp;omega,b⟩
    exact key s.1 OY i3
  · simp only[fH,g2,gf,if_false];rfl
theorem Gz {N:Nat} (e:1099000000000≤N) (x y:aJ) (h1:x.Pos.length≤1048576) (f:x.Neg.length≤1048576):fA N x y=some (decide (x=y)):=by
  unfold fA
  simp only[BW e _ _ (show x.Pos.length≤4294967296 by omega),BW e _ _ (show x.Neg.length≤4294967296 by omega),gb,mL]
  obtain⟨a,b⟩:=x;obtain⟨c,d⟩:=y
  simp only[aJ.mk.injEq,sY]
theorem E9 {N:Nat} (d:1099000000000≤N) (x y:List ax) (g:x.length≤1048576) (h:∀ a∈x,lh a):bd N x y (eF N)=some (decide (x=y)):=by
  unfold bd
  by_cases c:x.length=y.length
  · rw[if_neg (by simp;omega)]
    refine (rq (aR N x y (eF N)) x y c OY (eF N) (fun a f b _=>EV d a b (h a f)) (fun k i=>rfl) N 0 OY OY).trans ?_
    simp
  · rw[if_pos (by simp;omega)]
    have : ¬ x=y:=fun e=>c (by rw[e])
    simp[this]
theorem DJ {N:Nat} (f:1099000000000≤N) (x y:List aJ) (g:x.length≤1048576) (h:∀ c∈x,c.Pos.length≤1048576∧c.Neg.length≤1048576):bb N x y (fA N)=some (decide (x=y)):=by
  unfold bb
  by_cases c:x.length=y.length
  · rw[if_neg (by simp;omega)]
    refine (rq (aP N x y (fA N)) x y c OY (fA N) (fun a d b _=>Gz f a b (h a d).1 (h a d).2) (fun k i=>rfl) N 0 OY OY).trans ?_
    simp
  · rw[if_pos (by simp;omega)]
    have : ¬ x=y:=fun e=>c (by rw[e])
    simp[this]
theorem K6 {N:Nat} (c:1099000000000≤N) (n:cA) (d:bq) (f:sk d) (e:KW n):sg N n d=some (ji d && decide (n=cS d)):=by
  unfold sg
  rw[I7 c d f,gb]
  cases g:ji d with
  | false=>simp
  | true=>
    simp only[hC,gf,if_false,FN c d (nF g),gb,E9 c _ _ e.1.1 e.1.2,DJ c _ _ e.2.1 e.2.2,mL,hI]
    cases h:cS d with
    | mk a b=>cases n with | mk x y=>simp only[cA.mk.injEq,sY]
def rK (c:aJ):aV:=⟨List.replicate c.Pos.length ⟨[]⟩⟩
def lH (p:cA):aY:=⟨List.replicate p.Alphas.length ⟨[]⟩,p.Chains.map rK⟩
theorem Hi {N:Nat} (b:1099000000000≤N) (p:cA) (f:p.Alphas.length≤1048576) (d:p.Chains.length≤1048576) (hp:∀ c∈p.Chains,c.Pos.length≤1048576):qe N p=some (lH p):=by
  unfold qe lH
  rw[En _ OY,gb]
  refine (lp' b p.Chains OY (fun n (u:List aV) i=>j9 N p (List.replicate p.Alphas.length ⟨[]⟩) n u i) (fun t u=>some ⟨List.replicate p.Alphas.length ⟨[]⟩,u++t.map rK⟩) (fun u t=>u.length+t.length≤1048576) [] (by simpa using d) (fun n u i c t g1 g2 g3 g4 g5 g6 a e=>?_) (fun n u i g1 g2 a=>?_)).trans OZ
  · simp only[gj] at a
    have hm:=hp c g2
    simp only[j9,g5,if_true,g4,gb,En _ (show c.Pos.length≤4294967296 by omega),cg (show u.length+[(⟨List.replicate c.Pos.length ⟨[]⟩⟩:aV)].length≤4294967296 by simp;omega),g6]
    rw[e _ (by simp;omega)];simp[rK]
  · simp only[j9,g2,gf,if_false];simp
def kC (a:List bn):List Int→List bn→Bool
  | [],_=>true
  | _ :: _,[]=>false
  | x :: t,c :: cs=>(decide (0≤x) && (decide (x < (a.length:Int)) && decide (idx a x=some c))) && kC a t cs
def gC (a:ax) (f:aL):Bool:=(seq f.Kind a.Kind && decide ((f.Fields.length:Int)=a.N)) && kC f.Fields a.At a.Consts
theorem Ha {N:Nat} (o:1099000000000≤N) (a:ax) (f:aL) (h:a.At.length≤1048576):pL N a f=some (gC a f):=by
  have lp:∀ (n i:Nat),i≤a.At.length→a.At.length - i < n→j0 N a f n i=some (kC f.Fields (a.At.drop i) (a.Consts.drop i)):=by
    intro n
    induction n with
    | zero=>intro i _ h;omega
    | succ n l=>
      intro i p q
      simp only[j0]
      by_cases c:i < a.At.length
      · have c1:decide ((i:Int) < (a.At.length:Int))=true:=decide_eq_true OY
        rw[hn c]
        simp only[c1,if_true,ag c,gb,wr1 i OY,l (i+1) OY OY]
        by_cases d:i < a.Consts.length
        · have c2:decide ((a.Consts.length:Int)≤(i:Int))=false:=decide_eq_false OY
          rw[hn d,kC]
          by_cases b:a.At[i] < 0
          · simp[b,c2,show ¬ 0≤a.At[i] by omega]
          · by_cases h1:(f.Fields.length:Int)≤a.At[i]
            · simp[b,h1,show ¬ a.At[i] < (f.Fields.length:Int) by omega]
            · obtain⟨j,e⟩:∃ j:Nat,a.At[i]=(j:Int):=⟨a.At[i].toNat,OY⟩
              have g:j < f.Fields.length:=by omega
              rw[e]
              rw[e] at b h1
              simp only[b,h1,c2,decide_false,gf,if_false,gb,ag g,ag d,hJ,Option.some.injEq]
              by_cases he:f.Fields[j]=a.Consts[i] <;> simp[he,g]
        · have c2:decide ((a.Consts.length:Int)≤(i:Int))=true:=decide_eq_true OY
          rw[hy (show a.Consts.length≤i by omega),kC]
          by_cases b:a.At[i] < 0
          · simp[b,c2]
          · by_cases h1:(f.Fields.length:Int)≤a.At[i] <;> simp[b,h1,show a.Consts.length≤i by omega]
      · have c1:decide ((i:Int) < (a.At.length:Int))=false:=decide_eq_false OY
        rw[hy (show a.At.length≤i by omega)]
        simp only[c1,gf,if_false,kC]
  have k:=lp N 0 OY OY
  rw[hQ,hQ,show ((0:Nat):Int)=0 from rfl] at k
  unfold pL gC
  rw[k]
  cases seq f.Kind a.Kind <;> by_cases m:(f.Fields.length:Int)=a.N <;> simp[m]
def neg (l:List az):List az:=l.filter fun p=>p.Not
def okB (xs:List au) (ps:List az) (r:List Int):List aq × Bool:=aZ xs (ps.take r.length) r []
def gr (xs:List au) (ns:List az) (l:List aq):List Int:=ns.map fun p=>(tx p l xs:Int)
def od (xs:List au) (ps ns:List az) (row:List Int) (id:Int):List an:=
  if (okB xs ps (row++[id])).2=true then [⟨row++[id],if row.length+1=ps.length then gr xs ns (okB xs ps (row++[id])).1 else []⟩] else []
def gG (xs:List au) (ps ns:List az) (row ids:List Int):List an:=ids.flatMap (od xs ps ns row)
def jl (xs:List au) (ps ns:List az) (id:Int) (k:Nat) (B F:List an) (A:List Int):List an:=
  if k=0 then gG xs ps ns [] [id] else B.flatMap (fun t=>gG xs ps ns t.Ids [id])++F.flatMap (fun t=>gG xs ps ns t.Ids A)
def mC (xs:List au) (ps ns:List az) (id:Int) (A:Nat→List Int):Nat→List aw→List an→List an→List aw
  | _,[],_,_=>[]
  | k,L :: Ls,B,F=>⟨L.Toks++jl xs ps ns id k B F (A k)⟩ :: mC xs ps ns id A (k+1) Ls L.Toks (jl xs ps ns id k B F (A k))
def lB (f:aL) (l:List aq) (a:Int):List az→List Int→List Int
  | p :: ns,x :: h=>(if (aX p f l).2=true then IntKind.i64.wrap (x+a) else x) :: lB f l a ns h
  | _,h=>h
def kD (xs:List au) (ps ns:List az) (f:aL) (a:Int) (b:List an):List an:=
  b.map fun t=>if (okB xs ps t.Ids).2=true then ⟨t.Ids,lB f (okB xs ps t.Ids).1 a ns t.Hits⟩ else t
def uZ (as:List cn) (c:aJ) (k:Nat):List Int:=match c.Pos[k]? with
  | some a=>(match idx as a with
    | some i=>i.L
    | none=>[])
  | none=>[]
def gn (xs:List au) (ps ns:List az) (f:aL) (a:Int) (row:aV):aV:=match row.Levels[row.Levels.length - 1]? with
  | some L=>⟨row.Levels.set (row.Levels.length - 1) ⟨kD xs ps ns f a L.Toks⟩⟩
  | none=>row
def pG (xs:List au) (as:List cn) (f:aL) (id:Int) (r:ah) (c:aJ) (row:aV):aV:=
  ⟨mC xs (pos r.Pats) (neg r.Pats) id (uZ as c) 0 (gn xs (pos r.Pats) (neg r.Pats) f 1 row).Levels [] []⟩
def oU (g:ah→aJ→aV→aV):List ah→List aJ→List aV→List aV
  | r :: a,c :: cs,w :: ws=>g r c w :: oU g a cs ws
  | _,_,ws=>ws
def d7 (f:aL) (id:Int):List ax→List cn→List cn
  | a :: as,i :: is=>(if gC a f=true then ⟨i.L++[id]⟩ else i) :: d7 f id as is
  | _,is=>is
def A8 (d:bq) (n:cA) (m:aY) (s:af) (id:Int):aY:=
  ⟨d7 (aH s.Items id).1 id n.Alphas m.Alphas,oU (pG s.Items (d7 (aH s.Items id).1 id n.Alphas m.Alphas) (aH s.Items id).1 id) d.Rules n.Chains m.Rules⟩
theorem rV (xs:List au) (ps ns:List az) (row:List Int):∀ (ids:List Int),(gG xs ps ns row ids).length≤ids.length
  | []=>by simp[gG]
  | v :: ids=>by
    have h1:=rV xs ps ns row ids
    unfold gG at h1 ⊢
    rw[l0,gk,gj]
    have a:(od xs ps ns row v).length≤1:=by unfold od;split <;> simp
    omega
theorem sT (xs:List au) (ps ns:List az) (ids:List Int):∀ (B:List an),(B.flatMap fun t=>gG xs ps ns t.Ids ids).length≤B.length*ids.length
  | []=>by simp
  | t :: B=>by
    have h1:=sT xs ps ns ids B
    have a:=rV xs ps ns t.Ids ids
    rw[l0,gk,gj,hE];omega
theorem wZ {xs:List au} {ps ns:List az} {row ids:List Int}:∀ t∈gG xs ps ns row ids,t.Ids.length=row.length+1∧t.Hits.length≤ns.length:=by
  intro t a
  unfold gG at a
  obtain⟨v,_,h⟩:=j1.1 a
  unfold od at h
  split at h
  · simp only[List.mem_singleton] at h
    subst h
    refine⟨OZ,?_⟩
    simp only
    split
    · simp[gr]
    · simp
  · cases h
theorem xh (f:aL) (l:List aq) (b:Int):∀ (ns:List az) (h:List Int),(lB f l b ns h).length=h.length
  | p :: ns,x :: h=>by simp[lB,xh f l b ns h]
  | [],h=>by simp[lB]
  | p :: ns,[]=>by simp[lB]
theorem uq {xs:List au} {ps ns:List az} {f:aL} {b:Int} (a:List an):(kD xs ps ns f b a).map (·.Ids)=a.map (·.Ids):=by
  unfold kD
  rw[List.map_map]
  apply List.map_congr_left
  intro t _
  simp only[Function.comp]
  split <;> rfl
theorem wH {xs:List au} {ps ns:List az} {f:aL} {b:Int} (a:List an):(kD xs ps ns f b a).length=a.length:=by simp[kD]
theorem tb (xs:List au) (ps:List az) (ids:List Int):(okB xs ps ids).1.length≤df ps:=by
  have h1:=vp (xs:=xs) (ps.take ids.length) ids []
  have a:df (ps.take ids.length)≤df ps:=pA _ _
  unfold okB
  simp at h1
  omega
theorem zl {N:Nat} (b:1099000000000≤N) (s:af) (v:Int) (k:s.Items.length≤1048576) (c:∀ x∈s.Items,x.F.Fields.length≤1048576):mb N s v=some (aH s.Items v):=by
  unfold mb
  refine lp0 b s.Items OY (gZ N s v) (fun t=>some (aH t v)) (fun n i x t h1 a l d f g j=>?_) (fun n i h1 a=>?_)
  · have e:kF N x.F=some x.F:=by
      unfold kF
      rw[gR (show x.F.Fields.length≤4294967296 by have:=c x a;omega)];rfl
    simp only[gZ,f,if_true,d,gb,g,j,e,kR]
    by_cases h:x.Id=v <;> simp[h]
  · simp only[gZ,a,gf,if_false];rfl
structure SzS (r:ah) (s:af):Prop where
  pl:r.Pats.length≤1048576
  sa:df r.Pats≤1048576
  pa:∀ p∈r.Pats,p.Args.length≤1048576
  sl:s.Items.length≤1048576
  fl:∀ x∈s.Items,x.F.Fields.length≤1048576
  fp:pos r.Pats=r.Pats.take (ac r.Pats)
theorem Bm {N:Nat} (c:1099000000000≤N) (r:ah) (s:af) (a:SzS r s) (ids:List Int) (o:ids.length≤ac r.Pats) :
    ∃ l,jK N r s ids=some (l,(okB s.Items (pos r.Pats) ids).2)∧((okB s.Items (pos r.Pats) ids).2=true→l=(okB s.Items (pos r.Pats) ids).1)∧l.length≤1048576:=by
  have p:=dv r.Pats
  have t:=a.pl
  unfold jK
  have lp:∀ (n i:Nat) (l:List aq),i≤ids.length→ids.length - i < n→l.length+df (r.Pats.drop i)≤1048576 →
      ∃ q,fd N r s ids n l i=some (q,(aZ s.Items ((r.Pats.take ids.length).drop i) (ids.drop i) l).2)∧((aZ s.Items ((r.Pats.take ids.length).drop i) (ids.drop i) l).2=true→q=(aZ s.Items ((r.Pats.take ids.length).drop i) (ids.drop i) l).1)∧q.length≤1048576:=by
    intro n
    induction n with
    | zero=>intro i _ _ h;omega
    | succ n j=>
      intro i l h1 u d
      by_cases f:i < ids.length
      · have c1:decide ((i:Int) < (ids.length:Int))=true:=decide_eq_true OY
        have b:i < r.Pats.length:=by omega
        have k:i < (r.Pats.take ids.length).length:=by rw[k0];omega
        rw[hn b] at d
        rw[ef] at d
        have v:=jG r.Pats[i] (aH s.Items ids[i]).1 l
        rw[hn f,hn k,aZ,List.getElem_take]
        simp only[fd,c1,if_true,ag f,gb,zl c s _ a.sl a.fl,lW,ag b]
        rw[show (⟨(aH s.Items ids[i]).1.Kind,(aH s.Items ids[i]).1.Fields⟩:aL)=(aH s.Items ids[i]).1 from rfl,y4 c r.Pats[i] _ l (a.pa _ (hB b)) (show l.length≤2147483648 by omega)]
        simp only[gb,wr1 i OY]
        cases (aH s.Items ids[i]).2 with
        | false=>exact⟨l,OZ,OZ,OY⟩
        | true=>
          cases hm:(aX r.Pats[i] (aH s.Items ids[i]).1 l).2 with
          | false=>exact⟨l,OZ,OZ,OY⟩
          | true=>
            simp only[hC,gf,if_false,and_self,if_true,gb]
            exact j (i+1) _ OY OY OY
      · have c1:decide ((i:Int) < (ids.length:Int))=false:=decide_eq_false OY
        simp only[fd,c1,gf,if_false]
        rw[hy (show (r.Pats.take ids.length).length≤i by rw[k0];omega),hy (show ids.length≤i by omega)]
        exact⟨l,by simp[aZ],by simp[aZ],OY⟩
  obtain⟨q,h1,g,m⟩:=lp N 0 [] OY OY (by simpa using a.sa)
  have e:(pos r.Pats).take ids.length=r.Pats.take ids.length:=by rw[a.fp,List.take_take];congr 1;omega
  unfold okB
  rw[e]
  simp only[hQ] at h1 g
  exact⟨q,h1,g,m⟩
def pT (ns:List az) (f:aL) (l:List aq):List Int:=ns.map fun p=>if (aX p f l).2=true then 1 else 0
theorem KV {N:Nat} (b:1099000000000≤N) (r:ah) (f:aL) (l:List aq) (hp:r.Pats.length≤1048576) (pa:∀ p∈r.Pats,p.Args.length≤1048576) (e:l.length≤1048576):nR N r f l=some (pT (neg r.Pats) f l):=by
  unfold nR
  refine (lp' b r.Pats OY (fun n (u:List Int) i=>dY N r f l n u i) (fun t u=>some (u++pT (neg t) f l)) (fun u t=>u.length+t.length≤1048576) [] (by simpa using hp) (fun n u i p t g1 g2 g3 g4 g5 g6 c a=>?_) (fun n u i g1 g2 c=>?_)).trans OZ
  · simp only[gj] at c
    have d:neg (p :: t)=if p.Not then p :: neg t else neg t:=by unfold neg;rw[j8]
    simp only[dY,g5,if_true,g4,gb,y4 b p f l (pa p g2) (show l.length≤2147483648 by omega)]
    rw[d]
    cases g:p.Not with
    | false=>simp only[gf,if_false,g6];exact a u OY
    | true=>
      simp only[if_true]
      cases hm:(aX p f l).2 with
      | true=>
        simp only[if_true,iX,cg (show u.length+[(1:Int)].length≤4294967296 by simp;omega),gb,g6]
        rw[a _ (by simp;omega)];simp[pT,hm]
      | false=>
        simp only[gf,if_false,iX,cg (show u.length+[(0:Int)].length≤4294967296 by simp;omega),gb,g6]
        rw[a _ (by simp;omega)];simp[pT,hm]
  · simp only[dY,g2,gf,if_false];simp[neg,pT]
def lx (xs:List au) (ps:List az) (row:List Int) (id:Int):List an:=if (okB xs ps (row++[id])).2=true then [⟨row++[id],[]⟩] else []
theorem E8 {N:Nat} (b:1099000000000≤N) (r:ah) (s:af) (a:SzS r s) (out:List an) (row:List Int) (id:Int) (d:row.length+1≤ac r.Pats) (c:out.length+1≤4294967296) :
    kU N out r s row id=some (out++lx s.Items (pos r.Pats) row id):=by
  have e:=dv r.Pats
  have f:=a.pl
  obtain⟨l,h1,g,h⟩:=Bm b r s a (row++[id]) (by simp;omega)
  unfold kU lx
  simp only[gR (show row.length≤4294967296 by omega),gb,cg (show row.length+[id].length≤4294967296 by simp;omega),h1]
  cases (okB s.Items (pos r.Pats) (row++[id])).2 with
  | false=>simp
  | true=>simp[cg (show out.length+[(⟨row++[id],[]⟩:an)].length≤4294967296 by simpa using c)]
def GV:List Int→List Int→List Int
  | x :: a,y :: b=>(x+y) :: GV a b
  | a,_=>a
theorem GO (ns:List az) (l:List aq) (xs:List au) (x:au):GV (gr xs ns l) (pT ns x.F l)=gr (xs++[x]) ns l:=by
  induction ns with
  | nil=>rfl
  | cons p ns a=>
    unfold gr pT at a ⊢
    simp only[List.map_cons,GV,a]
    congr 1
    unfold tx
    rw[List.countP_append]
    cases hm:(aX p x.F l).2 with
    | true=>simp[hm]
    | false=>simp[hm]
theorem AW {N:Nat} (s2:Int) (K:List Int→Int→Option an) (e:List Int) (k:e.length≤1048576) (j:∀ y∈e,0≤y∧y≤1):∀ (b:List Int) (n:Nat) (c d a:List Int),b.length < n→e=c++b→d.length=c.length→a.length=b.length→(∀ x∈a,0≤x∧x≤1048576) →
    fe N s2 K e n (d++a) (c.length:Int)=K (d++GV a b) (IntKind.i64.wrap (s2+1))
  | [],n,c,d,a,h,h1,f,g,i=>by
    obtain⟨n,rfl⟩:∃ m,n=m+1:=⟨n - 1,by simp at h;omega⟩
    have c1:decide ((c.length:Int) < (e.length:Int))=false:=decide_eq_false (by rw[h1];simp)
    have:a=[]:=List.length_eq_zero_iff.1 (by simpa using g)
    subst this
    simp only[fe,c1,gf,if_false,GV]
  | y :: b,n,c,d,[],h,h1,f,g,i=>by simp at g
  | y :: b,n,c,d,x :: a,h,h1,f,g,i=>by
    obtain⟨n,rfl⟩:∃ m,n=m+1:=⟨n - 1,OY⟩
    simp only[gj] at h g
    have s:e.length=c.length+(b.length+1):=by rw[h1];simp
    have c1:decide ((c.length:Int) < (e.length:Int))=true:=decide_eq_true OY
    have l:idx e (c.length:Int)=some y:=by rw[h1,nY];simp
    have o:idx (d++x :: a) (c.length:Int)=some x:=by rw[← f,nY];simp
    have t:=i x OZ
    have u:=j y (by rw[h1];simp)
    have p:IntKind.i64.wrap (x+y)=x+y:=wr OY OY
    have q:(d++x :: a).set ((c.length:Int)).toNat (x+y)=(d++[x+y])++a:=by
      rw[hX,← f,ry _ _ (hz _),Nat.sub_self,List.set_cons_zero,gi];rfl
    simp only[fe,c1,if_true,l,o,gb,p,q,wr1 c.length OY]
    have:=AW (N:=N) s2 K e k j b n (c++[y]) (d++[x+y]) a OY (by rw[h1];simp) (by simp[f]) OY (fun z r=>i z (by simp[r]))
    simp only[gk,gj,gx,hA] at this
    rw[this,GV]
    simp
theorem IM {N:Nat} (d:1099000000000≤N) (r:ah) (s:af) (a:SzS r s) (t:an) (j:t.Ids.length≤ac r.Pats) (k:(okB s.Items (pos r.Pats) t.Ids).2=true) :
    mS N r s t=some ⟨t.Ids,gr s.Items (neg r.Pats) (okB s.Items (pos r.Pats) t.Ids).1⟩:=by
  have B:=dv r.Pats
  have C:=a.pl
  have D:=a.sl
  obtain⟨l,h1,f,o⟩:=Bm d r s a t.Ids j
  obtain rfl:=f k
  have E:=yU r.Pats
  have F:=qh r.Pats
  have q:(neg r.Pats).length=r.Pats.length - ac r.Pats:=by unfold neg;omega
  have u:IntKind.i64.wrap ((r.Pats.length:Int) - (ac r.Pats:Int))=((r.Pats.length - ac r.Pats:Nat):Int):=by
    rw[show ((r.Pats.length:Int) - (ac r.Pats:Int))=((r.Pats.length - ac r.Pats:Nat):Int) by omega]
    exact wr OY OY
  unfold mS
  rw[h1,gb,vY d r a.pl,gb,u,En _ OY,gb]
  have v:List.replicate (r.Pats.length - ac r.Pats) (0:Int)=gr [] (neg r.Pats) (okB s.Items (pos r.Pats) t.Ids).1:=by
    rw[← q]
    unfold gr tx
    apply List.ext_getElem
    · simp
    · intro i h1 f;simp
  rw[v]
  have lp:∀ (b:List au) (n:Nat) (dz:List au),b.length < n→s.Items=dz++b →
      dL N r s t ((okB s.Items (pos r.Pats) t.Ids).1,(okB s.Items (pos r.Pats) t.Ids).2) n (gr dz (neg r.Pats) (okB s.Items (pos r.Pats) t.Ids).1) (dz.length:Int)=some ⟨t.Ids,gr s.Items (neg r.Pats) (okB s.Items (pos r.Pats) t.Ids).1⟩:=by
    intro b
    induction b with
    | nil=>
      intro n dz e he
      obtain⟨n,rfl⟩:∃ m,n=m+1:=⟨n - 1,by simp at e;omega⟩
      have g:s.Items=dz:=by simpa using he
      have c1:decide ((dz.length:Int) < (s.Items.length:Int))=false:=decide_eq_false (by rw[g];simp)
      simp only[dL,c1,gf,if_false]
      rw[← g]
    | cons z b w=>
      intro n dz e he
      obtain⟨n,rfl⟩:∃ m,n=m+1:=⟨n - 1,OY⟩
      simp only[gj] at e
      have G:s.Items.length=dz.length+(b.length+1):=by rw[he];simp
      have c1:decide ((dz.length:Int) < (s.Items.length:Int))=true:=decide_eq_true OY
      have x:idx s.Items (dz.length:Int)=some z:=by rw[he,nY];simp
      simp only[dL,c1,if_true,x,gb,KV d r z.F _ a.pl a.pa o]
      have h:=AW (N:=N) (dz.length:Int) (dL N r s t ((okB s.Items (pos r.Pats) t.Ids).1,(okB s.Items (pos r.Pats) t.Ids).2) n) (pT (neg r.Pats) z.F (okB s.Items (pos r.Pats) t.Ids).1) (by simp[pT];omega)
        (fun y c=>by unfold pT at c;obtain⟨p,_,rfl⟩:=List.mem_map.1 c;split <;> omega) (pT (neg r.Pats) z.F (okB s.Items (pos r.Pats) t.Ids).1) N [] [] (gr dz (neg r.Pats) (okB s.Items (pos r.Pats) t.Ids).1) (by simp[pT];omega) rfl rfl (by simp[pT,gr])
        (fun y c=>by unfold gr at c;obtain⟨p,_,rfl⟩:=List.mem_map.1 c;have:=xS p (okB s.Items (pos r.Pats) t.Ids).1 dz;omega)
      simp only[ho,gx,Int.natCast_zero] at h
      have A:fe N (dz.length:Int) (dL N r s t ((okB s.Items (pos r.Pats) t.Ids).1,(okB s.Items (pos r.Pats) t.Ids).2) n) (pT (neg r.Pats) z.F (okB s.Items (pos r.Pats) t.Ids).1) N (gr dz (neg r.Pats) (okB s.Items (pos r.Pats) t.Ids).1) 0=_:=h
      rw[A,GO,wr1 dz.length OY]
      have:=w n (dz++[z]) OY (by rw[he];simp)
      simp only[gk,gj,gx,hA] at this
      exact this
  have:=lp s.Items N [] OY rfl
  simpa using this
theorem Hf {N:Nat} (c:1099000000000≤N) (p:List aq) (n:ByteArray) (d:p.length≤4294967296):nB N p n=some (vM p n):=by
  unfold nB
  have:∀ (k i:Nat),i≤p.length→p.length - i < k→iY N p n k i=some (vM (p.drop i) n):=by
    intro k
    induction k with
    | zero=>intro i _ h;omega
    | succ k b=>
      intro i e hk
      simp only[iY]
      by_cases a:i < p.length
      · have c1:decide ((i:Int) < (p.length:Int))=true:=decide_eq_true OY
        rw[hn a,AE]
        simp only[c1,if_true,ag a,gb,wr1 i OY,b (i+1) OY OY]
        cases seq p[i].Name n <;> rfl
      · have c1:decide ((i:Int) < (p.length:Int))=false:=decide_eq_false OY
        simp only[c1,gf,if_false]
        rw[hy OY];rfl
  exact this N 0 OY OY
theorem CU {N:Nat} (k:1099000000000≤N) (p:az) (f:aL) (b:List aq) (he:p.Args.length=f.Fields.length) (m:p.Args.length≤1048576) (o:b.length≤2147483648):∀ (n i:Nat) (s:List aq),i≤p.Args.length→p.Args.length - i < n→s.length≤2147483648+i →
    eh N p f b n s i=some (ez b (p.Args.drop i) (f.Fields.drop i) s):=by
  intro n
  induction n with
  | zero=>intro i s _ h;omega
  | succ n d=>
    intro i s q r t
    simp only[eh]
    by_cases e:i < p.Args.length
    · have c1:decide ((i:Int) < (p.Args.length:Int))=true:=decide_eq_true OY
      have g:i < f.Fields.length:=by omega
      rw[hn e,hn g,ez]
      simp only[c1,if_true,ag e,ag g,gb,Hf k s _ (show s.length≤4294967296 by omega),bz,gR (show b.length≤4294967296 by omega),cg (show s.length+[(⟨p.Args[i].S,f.Fields[i]⟩:aq)].length≤4294967296 by simp;omega),wr1 i OY,mL,orS]
      have c:=d (i+1) s OY OY OY
      have l:=d (i+1) (s++[⟨p.Args[i].S,f.Fields[i]⟩]) OY OY (by simp;omega)
      by_cases j:p.Args[i].K=2
      · have a : ¬ p.Args[i].K=1:=by omega
        simp only[j,a,decide_true,decide_false,if_true,if_false,hI,px,vj,gf,gb,show ¬ (2:Int)=1 by omega]
        cases bp p.Args[i].V f.Fields[i] with
        | true=>simpa using c
        | false=>simp
      · by_cases a:p.Args[i].K=1
        · simp only[a,decide_true,decide_false,if_true,if_false,hI,px,sX,gf,gb,show ¬ (1:Int)=2 by omega]
          cases (vM s p.Args[i].S).2 with
          | true=>
            simp only[if_true,hC,hI,gf,if_false]
            cases bp (vM s p.Args[i].S).1 f.Fields[i] with
            | true=>simpa using c
            | false=>simp
          | false=>simpa using l
        · simp only[a,j,decide_false,if_false,px,sX,vj,gf,gb]
          simpa using c
    · have c1:decide ((i:Int) < (p.Args.length:Int))=false:=decide_eq_false OY
      simp only[c1,gf,if_false]
      rw[hy OY]
      rfl
theorem GE (a b:ByteArray):seq a b=seq b a:=by rw[lG,lG];simp[eq_comm]
theorem vW {N:Nat} (c:1099000000000≤N) (p:az) (f:aL) (b:List aq) (d:p.Args.length≤1048576) (e:b.length≤2147483648):iW N p f b=some (aX p f b):=by
  unfold iW aX bz
  rw[gR OY,GE f.Kind p.Kind]
  simp only[gb,orS]
  cases hk:seq p.Kind f.Kind with
  | false=>simp
  | true=>
    by_cases he:p.Args.length=f.Fields.length
    · have a:decide ((f.Fields.length:Int)=(p.Args.length:Int))=true:=decide_eq_true OY
      have:=(CU c p f b he d e N 0 b OY OY OY)
      simp only[a,he,hC,vj,gf,if_false,true_and,if_true]
      simpa using this
    · have a:decide ((f.Fields.length:Int)=(p.Args.length:Int))=false:=decide_eq_false OY
      simp[a,he]
theorem wa {N:Nat} (b:1099000000000≤N) (s:af) (v:Int) (k:s.Items.length≤1048576) (c:∀ x∈s.Items,x.F.Fields.length≤1048576):mf N s v=some (aH s.Items v):=by
  unfold mf
  refine lp0 b s.Items OY (hU N s v) (fun t=>some (aH t v)) (fun n i x t h1 a l d f g j=>?_) (fun n i h1 a=>?_)
  · have e:nc N x.F=some x.F:=by
      unfold nc gy
      rw[gR (show x.F.Fields.length≤4294967296 by have:=c x a;omega)];rfl
    simp only[hU,f,if_true,d,gb,g,j,e,kR]
    by_cases h:x.Id=v <;> simp[h]
  · simp only[hU,a,gf,if_false];rfl
theorem Cf {N:Nat} (b:1099000000000≤N) (ps:List az) (s:af) (ids:List Int) (e:df ps≤1048576) (hp:∀ p∈ps,p.Args.length≤1048576) (f:s.Items.length≤1048576) (g:∀ x∈s.Items,x.F.Fields.length≤1048576) (m:ids.length≤1048576) (he:ids.length≤ps.length) :
    iS N ps s ids=some (aZ s.Items (ps.take ids.length) ids []):=by
  unfold iS
  have lp:∀ (n i:Nat) (l:List aq),i≤ids.length→ids.length - i < n→l.length+df (ps.drop i)≤1048576→ee N ps s ids n l i=some (aZ s.Items ((ps.take ids.length).drop i) (ids.drop i) l):=by
    intro n
    induction n with
    | zero=>intro i _ _ h;omega
    | succ n j=>
      intro i l h1 o c
      by_cases d:i < ids.length
      · have c1:decide ((i:Int) < (ids.length:Int))=true:=decide_eq_true OY
        have a:i < ps.length:=by omega
        have k:i < (ps.take ids.length).length:=by rw[k0];omega
        rw[hn a] at c
        rw[ef] at c
        have q:=jG ps[i] (aH s.Items ids[i]).1 l
        rw[hn d,hn k,aZ,List.getElem_take]
        simp only[ee,c1,if_true,ag d,ag a,gb,wa b s _ f g,vW b ps[i] _ l (hp _ (hB a)) (show l.length≤2147483648 by omega),wr1 i OY]
        cases (aH s.Items ids[i]).2 with
        | false=>simp
        | true=>
          cases (aX ps[i] (aH s.Items ids[i]).1 l).2 with
          | false=>simp
          | true=>
            simp only[hC,gf,if_false,and_self,if_true]
            exact j (i+1) _ OY OY OY
      · have c1:decide ((i:Int) < (ids.length:Int))=false:=decide_eq_false OY
        simp only[ee,c1,gf,if_false]
        rw[hy (show (ps.take ids.length).length≤i by rw[k0];omega),hy (show ids.length≤i by omega)];rfl
  have:=lp N 0 [] OY OY (by simpa using e)
  simpa using this
theorem I0 {N:Nat} (b:1099000000000≤N) (p:az) (s:af) (l:List aq) (hp:p.Args.length≤1048576) (j:s.Items.length≤1048576) (e:l.length≤2147483648):nU N p s l=some (tx p l s.Items:Int):=by
  unfold nU
  have:=lp' b s.Items OY (fo N p s l) (fun t k=>some (k+(tx p l t:Int))) (fun k t=>0≤k∧k+t.length≤1048576) (0:Int) (by simp;omega) (fun n k i x t h1 c m f g h d a=>by
    simp only[gj] at d
    simp only[fo,g,if_true,f,gb,vW b p x.F l hp e,h]
    unfold tx at a ⊢
    rw[List.countP_cons]
    cases (aX p x.F l).2 with
    | true=>
      rw[wr (n:=k+1) OY OY]
      simp only[if_true,a (k+1) OY];congr 1;omega
    | false=>simpa using a k OY) (fun n k i h1 c d=>by simp only[fo,c,gf,if_false,tx];simp)
  simpa using this
structure SzG (g:du):Prop where
  pl:g.pos.length≤1048576
  sa:df g.pos≤1048576
  pa:∀ p∈g.pos,p.Args.length≤1048576
  nl:g.neg.length≤1048576
  na:∀ p∈g.neg,p.Args.length≤1048576
  sl:g.s.Items.length≤1048576
  fl:∀ x∈g.s.Items,x.F.Fields.length≤1048576
theorem Gt {N:Nat} (d:1099000000000≤N) (g:du) (b:SzG g) (s1:List an) (s2:Int) (K:List an→Int→Option (List an)) (c:List Int) (a:List aq × Bool) (f:a.1.length≤2147483648) :
    cU N g s1 s2 K c a N [] 0=cV N s1 s2 K c (gr g.s.Items g.neg a.1):=by
  have j:=b.nl
  refine (lp' d g.neg OY (fun n (u:List Int) i=>cU N g s1 s2 K c a n u i) (fun t u=>cV N s1 s2 K c (u++gr g.s.Items t a.1)) (fun u t=>u.length+t.length≤1048576) [] (by simpa using b.nl) (fun n u i p t g1 g2 g3 g4 g5 g6 e h=>?_) (fun n u i g1 g2 e=>?_)).trans OZ
  · simp only[gj] at e
    simp only[cU,g5,if_true,g4,gb,I0 d p g.s a.1 (b.na p g2) b.sl f,cg (show u.length+[((tx p a.1 g.s.Items:Nat):Int)].length≤4294967296 by simp;omega),g6]
    rw[h _ (by simp;omega)]
    simp[gr]
  · simp only[cU,g2,gf,if_false];simp[gr]
theorem ym {N:Nat} (d:1099000000000≤N) (g:du) (a:SzG g) (row ids:List Int) (o:row.length+1≤g.pos.length) (h:ids.length≤4294967296) :
    fc N g row ids=some (gG g.s.Items g.pos g.neg row ids):=by
  have p:=a.pl
  unfold fc
  refine (lp' d ids h (fun n (u:List an) i=>bO N g row ids n u i) (fun t u=>some (u++gG g.s.Items g.pos g.neg row t)) (fun u t=>u.length+t.length≤4294967296) [] (by simpa using h) (fun n u i v t g1 g2 g3 g4 g5 g6 j e=>?_) (fun n u i g1 g2 j=>?_)).trans OZ
  · simp only[gj] at j
    have k:(row++[v]).length=row.length+1:=by simp
    have q:=tb g.s.Items g.pos (row++[v])
    have r:=a.sa
    have m:aZ g.s.Items (g.pos.take (row++[v]).length) (row++[v]) []=okB g.s.Items g.pos (row++[v]):=rfl
    simp only[bO,g5,if_true,g4,gb,cH,gR (show row.length≤4294967296 by omega),cg (show row.length+[v].length≤4294967296 by simp;omega),
      Cf d g.pos g.s (row++[v]) a.sa a.pa a.sl a.fl OY OY,m,gG,l0]
    have s:(t.flatMap fun b=>od g.s.Items g.pos g.neg row b)=gG g.s.Items g.pos g.neg row t:=rfl
    cases f:(okB g.s.Items g.pos (row++[v])).2 with
    | false=>
      have c:od g.s.Items g.pos g.neg row v=[]:=by unfold od;rw[f];simp
      simp only[hG,if_true,g6,c,ho]
      exact e u OY
    | true=>
      simp only[hC,gf,if_false]
      by_cases l:row.length+1=g.pos.length
      · have c1:decide (((row++[v]).length:Int)=(g.pos.length:Int))=true:=decide_eq_true (by rw[k];omega)
        have c:od g.s.Items g.pos g.neg row v=[⟨row++[v],gr g.s.Items g.neg (okB g.s.Items g.pos (row++[v])).1⟩]:=by unfold od;rw[f,if_pos rfl,if_pos l]
        simp only[c1,if_true,Gt d g a u _ _ _ _ (show (okB g.s.Items g.pos (row++[v])).1.length≤2147483648 by omega),cV,cg (show u.length+[(⟨row++[v],gr g.s.Items g.neg (okB g.s.Items g.pos (row++[v])).1⟩:an)].length≤4294967296 by simp;omega),gb,g6,c]
        rw[e _ (by simp;omega),gi];rfl
      · have c1:decide (((row++[v]).length:Int)=(g.pos.length:Int))=false:=decide_eq_false (by rw[k];omega)
        have c:od g.s.Items g.pos g.neg row v=[⟨row++[v],[]⟩]:=by unfold od;rw[f,if_pos rfl,if_neg l]
        simp only[c1,gf,if_false,cV,cg (show u.length+[(⟨row++[v],[]⟩:an)].length≤4294967296 by simp;omega),gb,g6,c]
        rw[e _ (by simp;omega),gi];rfl
  · simp only[bO,g2,gf,if_false];simp[gG]
def vE (A:Nat→Nat):Nat→List Nat→Nat→Nat→Prop
  | _,[],_,_=>True
  | k,l :: ls,b,f=>(if k=0 then 1 else b+f*A k)+l≤4294967296∧vE A (k+1) ls l (if k=0 then 1 else b+f*A k)
theorem xc {A:Nat→Nat}:∀ {ls:List Nat} {k b f a c:Nat},vE A k ls b f→a≤b→c≤f→vE A k ls a c
  | [],_,_,_,_,_,_,_,_=>trivial
  | l :: ls,k,b,f,a,c,h,d,e=>by
    have hm:(if k=0 then 1 else a+c*A k)≤(if k=0 then 1 else b+f*A k):=by
      split
      · exact hz _
      · exact Nat.add_le_add d (Nat.mul_le_mul_right _ e)
    exact⟨Nat.le_trans (Nat.add_le_add_right hm l) h.1,xc h.2 (hz _) hm⟩
theorem wK (xs:List au) (ps ns:List az) (id:Int) (k:Nat) (B F:List an) (A:List Int):(jl xs ps ns id k B F A).length≤(if k=0 then 1 else B.length+F.length*A.length):=by
  unfold jl
  split
  · exact rV xs ps ns [] [id]
  · have h1:=sT xs ps ns [id] B
    have a:=sT xs ps ns A F
    simp only[gk,gj,gx,hA,Nat.mul_one] at h1 a ⊢
    omega
theorem B7 {xs:List au} {ps ns:List az} {id:Int} {k:Nat} {B F:List an} {A:List Int} (b:∀ t∈B,t.Ids.length=k) (c:∀ t∈F,t.Ids.length=k):∀ t∈jl xs ps ns id k B F A,t.Ids.length=k+1:=by
  intro t a
  unfold jl at a
  split at a
  · rename_i hk
    rw[(wZ t a).1,hk];rfl
  · rcases gh.1 a with h | h
    · obtain⟨u,hu,h⟩:=j1.1 h
      rw[(wZ t h).1,b u hu]
    · obtain⟨u,hu,h⟩:=j1.1 h
      rw[(wZ t h).1,c u hu]
theorem J5 {N:Nat} (c:1099000000000≤N) (g:du) (e:SzG g) (s1:List aw) (F:List an) (k:Nat) (K:List aw→List an→List an→Int→Option (List aw)) (a:Int) (A:cn) (f:idx g.chain.Pos (k:Int)=some a) (h:idx g.alphas a=some A) (hk:k+1≤g.pos.length)
    (j:∀ t∈F,t.Ids.length=k) (b:List an) (l:b.length+F.length*A.L.length≤4294967296) (m:A.L.length≤4294967296) (o:F.length≤4294967296) :
    dH N g s1 F (k:Int) K N b 0=cL N s1 (k:Int) K (b++F.flatMap fun t=>gG g.s.Items g.pos g.neg t.Ids A.L):=by
  refine lp' c F o (fun n (u:List an) i=>dH N g s1 F (k:Int) K n u i) (fun t u=>cL N s1 (k:Int) K (u++t.flatMap fun t=>gG g.s.Items g.pos g.neg t.Ids A.L)) (fun u t=>u.length+t.length*A.L.length≤4294967296) b l (fun n u i v t g1 g2 g3 g4 g5 g6 d p=>?_) (fun n u i g1 g2 d=>?_)
  · rw[gj,hE] at d
    have h1:=rV g.s.Items g.pos g.neg v.Ids A.L
    simp only[dH,g5,if_true,g4,gb,f,h,ym c g e v.Ids A.L (by rw[j v g2];exact hk) m,cg (show u.length+(gG g.s.Items g.pos g.neg v.Ids A.L).length≤4294967296 by omega),g6]
    rw[p _ (by rw[gk];omega),l0,gi]
  · simp only[dH,g2,gf,if_false];simp
theorem Jj {N:Nat} (c:1099000000000≤N) (g:du) (d:SzG g) (s1:List aw) (B F:List an) (k:Nat) (K:List aw→List an→List an→Int→Option (List aw)) (a:Int) (A:cn) (e:idx g.chain.Pos (k:Int)=some a) (f:idx g.alphas a=some A) (hk:k+1≤g.pos.length)
    (h:∀ t∈B,t.Ids.length=k) (j:∀ t∈F,t.Ids.length=k) (l:B.length+F.length*A.L.length≤4294967296) (m:A.L.length≤4294967296) (o:F.length≤4294967296) :
    dA N g s1 B F (k:Int) K N [] 0=cL N s1 (k:Int) K ((B.flatMap fun t=>gG g.s.Items g.pos g.neg t.Ids [g.id])++F.flatMap fun t=>gG g.s.Items g.pos g.neg t.Ids A.L):=by
  refine (lp' c B OY (fun n (u:List an) i=>dA N g s1 B F (k:Int) K n u i) (fun t u=>cL N s1 (k:Int) K (u++(t.flatMap fun t=>gG g.s.Items g.pos g.neg t.Ids [g.id])++F.flatMap fun t=>gG g.s.Items g.pos g.neg t.Ids A.L)) (fun u t=>u.length+t.length+F.length*A.L.length≤4294967296) [] (by simpa using l) (fun n u i v t g1 g2 g3 g4 g5 g6 b p=>?_) (fun n u i g1 g2 b=>?_)).trans OZ
  · rw[gj] at b
    have h1:=rV g.s.Items g.pos g.neg v.Ids [g.id]
    simp only[gj,gx,hA] at h1
    simp only[dA,g5,if_true,g4,gb,ym c g d v.Ids [g.id] (by rw[h v g2];exact hk) OZ,cg (show u.length+(gG g.s.Items g.pos g.neg v.Ids [g.id]).length≤4294967296 by omega),g6]
    rw[p _ (by rw[gk];omega),l0]
    simp only[gi]
  · simp only[dA,g2,gf,if_false]
    simp only[gx,l4] at b
    rw[J5 c g d s1 F k K a A e f hk j u b m o];simp
theorem Fx {N:Nat} (e:1099000000000≤N) (g:du) (d:SzG g) (b:List aw) (A:Nat→List Int) (hp:b.length≤g.pos.length) (s:∀ k,k < b.length→∃ a i,idx g.chain.Pos (k:Int)=some a∧idx g.alphas a=some i∧i.L=A k) (u:∀ k,(A k).length≤4294967296) :
    ∀ (rest:List aw) (n:Nat) (done:List aw) (B F:List an),rest.length < n→done.length+rest.length=b.length→(∀ t∈B,t.Ids.length=done.length)→(∀ t∈F,t.Ids.length=done.length)→(∀ i L,rest[i]?=some L→∀ t∈L.Toks,t.Ids.length=done.length+1+i) →
      F.length≤4294967296→vE (fun k=>(A k).length) done.length (rest.map (·.Toks.length)) B.length F.length→bW N g b n (done++rest) B F (done.length:Int)=some (done++mC g.s.Items g.pos g.neg g.id A done.length rest B F)
  | [],n,done,B,F,f,h,l,o,p,v,w=>by
    obtain⟨n,rfl⟩:∃ m,n=m+1:=⟨n - 1,by simp at f;omega⟩
    simp only[gx,l4] at h
    have c1:decide ((done.length:Int) < (b.length:Int))=false:=decide_eq_false OY
    simp only[bW,c1,gf,if_false,mC]
  | L :: Ls,n,done,B,F,f,h,l,o,p,v,w=>by
    obtain⟨n,rfl⟩:∃ m,n=m+1:=⟨n - 1,OY⟩
    simp only[gj] at f h
    obtain⟨x,y⟩:=w
    simp only at x y
    have O:=d.pl
    have c1:decide ((done.length:Int) < (b.length:Int))=true:=decide_eq_true OY
    obtain⟨a,i,z,C,q⟩:=s done.length OY
    have D:=wK g.s.Items g.pos g.neg g.id done.length B F (A done.length)
    have E:=B7 (xs:=g.s.Items) (ps:=g.pos) (ns:=g.neg) (id:=g.id) (A:=A done.length) l o
    -- the end of a round
    have key:∀ M,M=jl g.s.Items g.pos g.neg g.id done.length B F (A done.length)→cL N (done++L :: Ls) (done.length:Int) (bW N g b n) M=some (done++mC g.s.Items g.pos g.neg g.id A done.length (L :: Ls) B F):=by
      intro M G
      subst G
      have H:idx (done++L :: Ls) (done.length:Int)=some L:=by rw[nY];simp
      have I:(done++L :: Ls).set ((done.length:Int)).toNat ⟨L.Toks++jl g.s.Items g.pos g.neg g.id done.length B F (A done.length)⟩=(done++[⟨L.Toks++jl g.s.Items g.pos g.neg g.id done.length B F (A done.length)⟩])++Ls:=by
        rw[hX,ry _ _ (hz _),Nat.sub_self,List.set_cons_zero,gi];rfl
      simp only[cL,H,gb,eV,gR (show L.Toks.length≤4294967296 by omega),cg (show L.Toks.length+(jl g.s.Items g.pos g.neg g.id done.length B F (A done.length)).length≤4294967296 by omega),I,wr1 done.length OY]
      have:=Fx e g d b A hp s u Ls n (done++[⟨L.Toks++jl g.s.Items g.pos g.neg g.id done.length B F (A done.length)⟩]) L.Toks (jl g.s.Items g.pos g.neg g.id done.length B F (A done.length)) OY (by simp;omega)
        (fun t c=>by have:=p 0 L rfl t c;simpa using this) (fun t c=>by simpa using E t c) (fun j M K t c=>by have:=p (j+1) M (by simpa using K) t c;simp only[gk,gj,gx];omega) OY
        (by simp only[gk,gj,gx];exact xc y (hz _) D)
      simp only[gk,gj,gx,hA] at this
      rw[this,gi];rfl
    simp only[bW,c1,if_true]
    by_cases r:done.length=0
    · have c2:decide ((done.length:Int)=0)=true:=decide_eq_true OY
      simp only[c2,if_true,ym e g d [] [g.id] (by simp;omega) OZ,gb]
      exact key _ (by unfold jl;rw[if_pos r])
    · have c2:decide ((done.length:Int)=0)=false:=decide_eq_false OY
      rw[if_neg r] at x
      simp only[c2,gf,if_false]
      rw[Jj e g d _ B F done.length _ a i z C OY l o (by rw[q];omega) (by rw[q];exact u _) v,q]
      exact key _ (by unfold jl;rw[if_neg r])
theorem MM {N:Nat} (c:1099000000000≤N) (g:du) (b:SzG g) (ls:List aw) (A:Nat→List Int) (hp:ls.length≤g.pos.length) (d:∀ k,k < ls.length→∃ a i,idx g.chain.Pos (k:Int)=some a∧idx g.alphas a=some i∧i.L=A k) (e:∀ k,(A k).length≤4294967296)
    (f:∀ i L,ls[i]?=some L→∀ t∈L.Toks,t.Ids.length=i+1) (j:vE (fun k=>(A k).length) 0 (ls.map (·.Toks.length)) 0 0):iI N g ls=some (mC g.s.Items g.pos g.neg g.id A 0 ls [] []):=by
  have m:=b.pl
  have:=Fx c g b ls A hp d e ls N [] [] [] OY OZ OZ OZ (fun i L h t l=>by rw[f i L h t l];simp;omega) OZ (by simpa using j)
  unfold iI
  simpa using this
theorem tX {N:Nat} (d:1099000000000≤N) (r:ah) (b:Bool) (e:r.Pats.length≤1048576):oL N r b=some (r.Pats.filter fun p=>p.Not == b):=by
  unfold oL
  refine (lp' d r.Pats OY (jz N r b) (fun t u=>some (u++t.filter fun p=>p.Not == b)) (fun u t=>u.length+t.length≤1048576) [] (by simpa using e) (fun n u i p t g1 g2 g3 g4 g5 g6 a c=>?_) (fun n u i g1 g2 a=>?_)).trans OZ
  · simp only[gj] at a
    simp only[jz,g5,if_true,g4,gb,j8,g6]
    cases f:(p.Not == b) with
    | true=>
      simp only[if_true,cg (show u.length+[p].length≤4294967296 by simp;omega),gb]
      rw[c _ (by simp;omega)];simp
    | false=>
      simp only[gf,if_false]
      exact c u OY
  · simp only[jz,g2,gf,if_false];simp
end Go.Proofs.YtedmfnmbjglmbaaGreat
