/- Plain laws, one after the other: PLCame. -/
import Derived.Test.YtedmfnmbjglmbaaGreatPLib
import Derived.Test.YtedmfnmbjglmbaaGreatWCameMod
import Derived.Test.YtedmfnmbjglmbaaGreatWCamePur
/-
  Plain laws of common loops, for the cores. No program.
-/
namespace Go.Proofs.YtedmfnmbjglmbaaGreat
open Eng
set_option linter.unusedVariables false
set_option linter.unusedSimpArgs false
theorem bO {α:Type} {xs a:List α} (h:xs.length+a.length≤4294967296):app xs a=some (xs++a):=by unfold app;rw[if_pos h]
theorem ft {α:Type} {a:List α} (h:a.length≤4294967296):app ([]:List α) a=some a:=by rw[bO (by simpa using h)];rfl
theorem E8 {α:Type} (f:Nat→Int→Option Bool) (xs:List α) (e:xs.length≤4294967296) (p:α→Bool) (z:Bool) (i0:Nat)
    (b:∀ n (i:Nat) (x:α),i0≤i→idx xs (i:Int)=some x→x∈xs→decide ((i:Int) < (xs.length:Int))=true→IntKind.i64.wrap ((i:Int)+1)=((i+1:Nat):Int)→f (n+1) i=if p x then f n ((i+1:Nat):Int) else some false)
    (he:∀ n (i:Nat),decide ((i:Int) < (xs.length:Int))=false→f (n+1) i=some z) :
    ∀ (n i:Nat),i0≤i→i≤xs.length→xs.length - i < n→f n i=some ((xs.drop i).all p && z):=by
  intro n
  induction n with
  | zero=>intro i _ _ h;omega
  | succ n c=>
    intro i d g j
    by_cases a:i < xs.length
    · rw[gI a,n0,b n i xs[i] d (ah a) (hG a) (decide_eq_true NR) (wr1 i NR),c (i+1) NR NR NR]
      cases p xs[i] <;> simp
    · rw[he n i (decide_eq_false NR),hz NR,List.all_nil,hV]
theorem yI {α:Type} (f:Nat→Int→Option Int) (xs:List α) (d:xs.length≤4294967296) (p:α→Bool)
    (b:∀ n (i:Nat) (x:α),idx xs (i:Int)=some x→x∈xs→decide ((i:Int) < (xs.length:Int))=true→IntKind.i64.wrap ((i:Int)+1)=((i+1:Nat):Int)→f (n+1) i=if p x then some (i:Int) else f n ((i+1:Nat):Int))
    (he:∀ n (i:Nat),decide ((i:Int) < (xs.length:Int))=false→f (n+1) i=some (-1)) :
    ∀ (n i:Nat),i≤xs.length→xs.length - i < n→f n i=some (match (xs.drop i).findIdx? p with | some j=>((i+j:Nat):Int) | none=>-1):=by
  intro n
  induction n with
  | zero=>intro i _ h;omega
  | succ n c=>
    intro i e g
    by_cases a:i < xs.length
    · rw[gI a,List.findIdx?_cons,b n i xs[i] (ah a) (hG a) (decide_eq_true NR) (wr1 i NR),c (i+1) NR NR]
      cases p xs[i]
      · simp only[fI,if_false]
        cases (xs.drop (i+1)).findIdx? p with
        | none=>rfl
        | some j=>simp only[y3];congr 2;omega
      · simp
    · rw[he n i (decide_eq_false NR),hz NR];rfl
theorem Cg {α:Type} (xs:List α) (p:α→Bool):decide (0≤(match xs.findIdx? p with | some j=>((0+j:Nat):Int) | none=>-1))=xs.any p:=by
  cases h:xs.findIdx? p with
  | none=>
    rw[O5] at h
    simp only[show ¬ (0:Int) ≤ -1 by omega,decide_false]
    symm;rw[List.any_eq_false];intro x a;simp[h x a]
  | some j=>
    simp only[ho,show (0:Int)≤(j:Int) by omega,decide_true]
    rw[K3] at h
    obtain⟨b,hp,_⟩:=h
    symm;rw[K4];exact⟨_,hG b,hp⟩
theorem sf (a b:Bool):(if a=true then some b else some false)=some (a && b):=by cases a <;> rfl
theorem orS (a b:Bool):(if a=true then some true else some b)=some (a || b):=by cases a <;> rfl
end Go.Proofs.YtedmfnmbjglmbaaGreat
/-
  Plain laws of loops over lists, one law for all. No program.
-/
namespace Go.Proofs.YtedmfnmbjglmbaaGreat
open Eng
set_option linter.unusedVariables false
set_option linter.unusedSimpArgs false
theorem lp {σ α β:Type} (xs:List α) (k:xs.length≤4294967296) (f:Nat→σ→Int→Option β) (G:List α→σ→Option β) (I:σ→List α→Prop)
    (e:∀ n s (i:Nat) (x:α) (t:List α),xs.drop i=x :: t→x∈xs→i < xs.length→idx xs (i:Int)=some x→decide ((i:Int) < (xs.length:Int))=true→IntKind.i64.wrap ((i:Int)+1)=((i+1:Nat):Int)→I s (x :: t) →
      (∀ a,I a t→f n a ((i+1:Nat):Int)=G t a)→f (n+1) s i=G (x :: t) s)
    (he:∀ n s (i:Nat),i=xs.length→decide ((i:Int) < (xs.length:Int))=false→I s []→f (n+1) s i=G [] s) :
    ∀ (n i:Nat) (s:σ),i≤xs.length→xs.length - i < n→I s (xs.drop i)→f n s i=G (xs.drop i) s:=by
  intro n
  induction n with
  | zero=>intro i s _ h;omega
  | succ n g=>
    intro i s l m b
    by_cases c:i < xs.length
    · have d:=gI c
      rw[d] at b ⊢
      exact e n s i _ _ d (hG c) c (ah c) (decide_eq_true NR) (wr1 i NR) b (fun a j=>g (i+1) a NR NR j)
    · have d:xs.drop i=[]:=hz NR
      rw[d] at b ⊢
      exact he n s i NR (decide_eq_false NR) b
theorem lp' {σ α β:Type} {N:Nat} (e:1099000000000≤N) (xs:List α) (b:xs.length≤4294967296) (f:Nat→σ→Int→Option β) (G:List α→σ→Option β) (I:σ→List α→Prop) (s:σ) (c:I s xs)
    (d:∀ n s (i:Nat) (x:α) (t:List α),xs.drop i=x :: t→x∈xs→i < xs.length→idx xs (i:Int)=some x→decide ((i:Int) < (xs.length:Int))=true→IntKind.i64.wrap ((i:Int)+1)=((i+1:Nat):Int)→I s (x :: t) →
      (∀ a,I a t→f n a ((i+1:Nat):Int)=G t a)→f (n+1) s i=G (x :: t) s)
    (he:∀ n s (i:Nat),i=xs.length→decide ((i:Int) < (xs.length:Int))=false→I s []→f (n+1) s i=G [] s):f N s 0=G xs s:=by
  have:=lp xs b f G I d he N 0 s NR NR (by simpa using c)
  simpa using this
theorem lp0 {α β:Type} {N:Nat} (b:1099000000000≤N) (xs:List α) (c:xs.length≤4294967296) (f:Nat→Int→Option β) (G:List α→Option β)
    (d:∀ n (i:Nat) (x:α) (t:List α),xs.drop i=x :: t→x∈xs→i < xs.length→idx xs (i:Int)=some x→decide ((i:Int) < (xs.length:Int))=true→IntKind.i64.wrap ((i:Int)+1)=((i+1:Nat):Int) →
      f n ((i+1:Nat):Int)=G t→f (n+1) i=G (x :: t))
    (he:∀ n (i:Nat),i=xs.length→decide ((i:Int) < (xs.length:Int))=false→f (n+1) i=G []):f N 0=G xs:=by
  have:=lp' (σ:=Unit) b xs c (fun n _ i=>f n i) (fun t _=>G t) (fun _ _=>True) () trivial (fun n _ i x t h1 a e g h j _ k=>d n i x t h1 a e g h j (k () trivial)) (fun n _ i h1 a _=>he n i h1 a)
  simpa using this
theorem Nu (a b:Bool):(if (!a)=true then some true else some b)=some (!a || b):=by cases a <;> rfl
theorem Kv (i:Int) (m:Nat) (h:m < 4611686018427387904):0≤xW .i64 i (m:Int)∧xW .i64 i (m:Int)≤(m:Int):=by
  unfold xW
  have h1:((BitVec.ofInt IntKind.i64.bits i) &&& (BitVec.ofInt IntKind.i64.bits (m:Int))).toNat≤m:=by
    rw[BitVec.toNat_and]
    have a:(BitVec.ofInt IntKind.i64.bits (m:Int)).toNat=m:=by
      rw[BitVec.toNat_ofInt]
      have:((2 ^ IntKind.i64.bits:Nat):Int)=18446744073709551616:=by decide
      rw[this,Int.emod_eq_of_lt NR NR]
      simp
    rw[a];exact Nat.and_le_right
  rw[wr NR NR]
  omega
theorem GZ (i:Int):0≤xW .i64 i 255∧xW .i64 i 255≤255:=Kv i 255 NR
def GC (b:List Int) (c:ab):Prop:=c.b=b∧0≤c.i∧c.i≤(b.length:Int)
theorem GC.re {b:List Int} {c d:ab} (h:GC b c) (a:d.b=b):GC b (⟨d.b,c.i,c.h⟩:ab):=⟨a,h.2⟩
theorem Lz {N:Nat} (e:1099000000000≤N) (b:List Int) (f:b.length≤1048576):∃ c,oN N b=some c∧GC b c:=by
  unfold oN
  have:∀ (n i:Nat) (h:Int),i≤b.length→b.length - i < n→∃ c,jm N b n h i=some c∧GC b c:=by
    intro n
    induction n with
    | zero=>intro i h _ g;omega
    | succ n a=>
      intro i h j k
      simp only[jm]
      by_cases d:i < b.length
      · have c1:decide ((i:Int) < (b.length:Int))=true:=decide_eq_true NR
        simp only[c1,if_true,fz,ah d,wr1 i NR]
        split
        · exact a (i+1) _ NR NR
        · exact⟨_,rfl,rfl,NS,NS⟩
      · have c1:decide ((i:Int) < (b.length:Int))=false:=decide_eq_false NR
        simp only[c1,fI,if_false,fz]
        exact⟨_,rfl,rfl,NS,NS⟩
  exact this N 0 _ NR NR
theorem xo {N:Nat} (b:List Int) (h:b.length≤1048576) (c:ab) (g:GC b c):∃ v d,kC N c=some (v,d)∧GC b d∧0≤v∧v≤255:=by
  obtain⟨rfl,e,h1⟩:=g
  unfold kC
  by_cases a:c.i < (c.b.length:Int)
  · obtain⟨i,f⟩:∃ i:Nat,c.i=(i:Int):=⟨c.i.toNat,NR⟩
    have c1:decide (c.i < (c.b.length:Int))=true:=decide_eq_true a
    rw[f] at e h1 a ⊢
    rw[f] at c1
    simp only[c1,if_true,ah (show i < c.b.length by omega),fz,wr1 i NR]
    exact⟨_,_,rfl,⟨rfl,by simp;omega,by simp;omega⟩,GZ _⟩
  · have c1:decide (c.i < (c.b.length:Int))=false:=decide_eq_false a
    simp only[c1,fI,if_false]
    exact⟨_,_,rfl,⟨rfl,e,h1⟩,GZ _⟩
theorem Hn {v n:Int} (a:0≤v) (b:0 < n):∃ r,FJ v n=some r∧0≤r∧r < n:=by
  unfold FJ
  rw[if_neg NR,Int.tmod_eq_emod_of_nonneg a]
  exact⟨_,rfl,Int.emod_nonneg _ NR,Int.emod_lt_of_pos _ b⟩
theorem Cp {N:Nat} (b:List Int) (f:b.length≤1048576) (c:ab) (a:GC b c) (n:Int):∃ v d,cA N c n=some (v,d)∧GC b d∧0≤v∧(0 < n→v < n)∧(n≤0→v=0):=by
  unfold cA
  by_cases l:n≤0
  · simp only[l,decide_true,if_true]
    exact⟨_,_,rfl,a,NR,NR,fun _=>rfl⟩
  · simp only[l,decide_false,fI,if_false]
    by_cases h1:n≤256
    · simp only[h1,decide_true,if_true]
      obtain⟨v,d,e,g,m,a2⟩:=xo (N:=N) b f c a
      obtain⟨r,i,j,k⟩:=Hn m (show 0 < n by omega)
      simp only[e,fz,i]
      exact⟨_,_,rfl,g.re a.1 |> fun _=>⟨a.1,g.2⟩,j,fun _=>k,fun h=>h.elim⟩
    · simp only[h1,decide_false,fI,if_false]
      obtain⟨v1,d1,o,g1,m,s⟩:=xo (N:=N) b f c a
      simp only[o,fz]
      obtain⟨v2,d2,p,g2,a2,t⟩:=xo (N:=N) b f ⟨c.b,d1.i,d1.h⟩ ⟨a.1,g1.2⟩
      simp only[p,fz]
      obtain⟨v3,d3,q,g3,a3,u⟩:=xo (N:=N) b f ⟨c.b,d2.i,d2.h⟩ ⟨a.1,g2.2⟩
      simp only[q,fz]
      rw[wr (n:=v1*65536) NR NR,wr (n:=v2*256) NR NR,wr (n:=v1*65536+v2*256) NR NR,wr (n:=v1*65536+v2*256+v3) NR NR]
      obtain⟨r,i,j,k⟩:=Hn (show 0≤v1*65536+v2*256+v3 by omega) (show 0 < n by omega)
      simp only[i,fz]
      exact⟨_,_,rfl,⟨a.1,g3.2⟩,j,fun _=>k,fun h=>h.elim⟩
theorem wrm {s:Int} (h:0 < s) (a:s≤4611686018427387904):IntKind.i64.wrap (s - 1)=s - 1:=wr NR NR
def Dr {α:Type} (b:List Int) (Q:α→Prop) (o:Option (α × ab)):Prop:=∃ v d,o=some (v,d)∧GC b d∧Q v
theorem Dr.bind {α β:Type} {b:List Int} {Q:α→Prop} {R:β→Prop} {o:Option (α × ab)} {f:α × ab→Option (β × ab)} (h:Dr b Q o) (k:∀ v d,GC b d→Q v→Dr b R (f (v,d))):Dr b R (o.bind f):=by
  obtain⟨v,d,rfl,g,q⟩:=h;exact k v d g q
theorem Dr.bindO {a β:Type} {b:List Int} {R:β→Prop} {x:a} {o:Option a} {f:a→Option (β × ab)} (h:o=some x) (k:Dr b R (f x)):Dr b R (o.bind f):=by
  rw[h];exact k
theorem Dr.ret {α:Type} {b:List Int} {Q:α→Prop} {v:α} {c:ab} (g:GC b c) (q:Q v):Dr b Q (some (v,c)):=⟨v,c,rfl,g,q⟩
theorem Dr.ite {α:Type} {b:List Int} {Q:α→Prop} {x y:Option (α × ab)} {p:Bool} (h1:p=true→Dr b Q x) (a:p=false→Dr b Q y):Dr b Q (if p=true then x else y):=by
  cases p with
  | true=>exact h1 rfl
  | false=>exact a rfl
theorem GC.at {b:List Int} {c d:ab} (g:GC b d) (h:c.b=b):GC b (⟨c.b,d.i,d.h⟩:ab):=⟨h,g.2⟩
theorem kM {N:Nat} {b:List Int} (a:b.length≤1048576) {c:ab} (g:GC b c) (n:Int) (f:0 < n):Dr b (fun v=>0≤v∧v < n) (cA N c n):=by
  obtain⟨v,d,e,g,h1,h,-⟩:=Cp (N:=N) b a c g n
  exact⟨v,d,e,g,h1,h f⟩
theorem BO {N:Nat} {b:List Int} (a:b.length≤1048576) {c:ab} (g:GC b c) (n:Int):Dr b (fun v=>0≤v∧(0 < n→v < n)) (cA N c n):=by
  obtain⟨v,d,e,g,h1,f,-⟩:=Cp (N:=N) b a c g n
  exact⟨v,d,e,g,h1,f⟩
theorem sg {α:Type} {xs a:List α} (h:xs.length≤4194304) (b:a.length≤4194304):app xs a=some (xs++a):=bO NR
theorem nJ {α:Type} {P:α→Prop} {xs:List α} {x:α} (h:∀ a∈xs,P a) (b:P x):∀ a∈xs++[x],P a:=fun a c=>by
  rcases gb.1 c with h1 | h1
  · exact h a h1
  · simp at h1;rw[h1];exact b
theorem rM {N:Nat} {b:List Int} (a:b.length≤1048576) {c:ab} (g:GC b c) (n:Int):Dr b (fun _=>True) (ff N c n):=by
  unfold ff
  exact (BO a g n).bind fun v d gd _=>.ret (gd.at g.1) trivial
theorem vv {N:Nat} {b:List Int} (a:b.length≤1048576) {c:ab} (g:GC b c) (l:List ByteArray) (h:0 < l.length):Dr b (fun s=>s∈l) (gT N c l):=by
  unfold gT
  refine (kM a g (l.length:Int) NR).bind fun v d gd q=>?_
  obtain⟨j,rfl⟩:∃ j:Nat,v=(j:Int):=⟨v.toNat,NR⟩
  exact .bindO (ah (show j < l.length by omega)) (.ret (gd.at g.1) (hG _))
def vp (v:bN):Prop:=(∃ n:Int,1≤n∧n≤3∧v=⟨1,n,⟨#[]⟩⟩)∨∃ s∈([⟨#[97]⟩,⟨#[98]⟩]:List ByteArray),v=⟨2,0,s⟩
theorem Bg {N:Nat} {b:List Int} (a:b.length≤1048576) {c:ab} (g:GC b c):Dr b vp (kD N c):=by
  unfold kD
  refine (rM a g 2).bind fun v d gd _=>.ite (fun _=>?_) fun _=>?_
  · exact (kM a (gd.at g.1) 3 NR).bind fun w e ge q=>.ret (ge.at g.1) (.inl ⟨_,by dsimp only;rw[wr NR NR];omega,by dsimp only;rw[wr NR NR];omega,rfl⟩)
  · exact (vv a (gd.at g.1) _ (by decide)).bind fun w e ge q=>.ret (ge.at g.1) (.inr ⟨w,q,rfl⟩)
theorem xH {v:bN} (h:vp v):v.S.size≤16:=by
  rcases h with ⟨n,_,_,rfl⟩ | ⟨s,a,rfl⟩
  · show (0:Nat)≤16;omega
  · exact (show ∀ s∈([⟨#[97]⟩,⟨#[98]⟩]:List ByteArray),s.size≤16 by decide) s a
def sK (a:cJ):Prop:=a.S.size≤16∧a.V.S.size≤16
def H8 (p:ay):Prop:=p.Kind.size≤16∧p.Args.length≤16∧∀ a∈p.Args,sK a
def BE (a:cJ):Prop:=a=⟨3,⟨#[]⟩,⟨0,0,⟨#[]⟩⟩⟩∨(∃ v,vp v∧a=⟨2,⟨#[]⟩,v⟩)∨∃ s∈([⟨#[88]⟩,⟨#[89]⟩,⟨#[90]⟩,⟨#[88]⟩]:List ByteArray),a=⟨1,s,⟨0,0,⟨#[]⟩⟩⟩
theorem Cc {a:cJ} (h:BE a):sK a:=by
  rcases h with rfl | ⟨v,b,rfl⟩ | ⟨s,c,rfl⟩
  · exact⟨jt _,jt _⟩
  · exact⟨jt _,xH b⟩
  · exact⟨(show ∀ s∈([⟨#[88]⟩,⟨#[89]⟩,⟨#[90]⟩,⟨#[88]⟩]:List ByteArray),s.size≤16 by decide) s c,jt _⟩
theorem Mv {N:Nat} {b:List Int} (a:b.length≤1048576) {c:ab} (g:GC b c):Dr b BE (qT N c):=by
  unfold qT
  refine (kM a g 6 NR).bind fun v d gd _=>.ite (fun _=>.ret (gd.at g.1) (.inl rfl)) fun _=>.ite (fun _=>?_) fun _=>?_
  · exact (Bg a (gd.at g.1)).bind fun w e ge q=>.bindO rfl (.ret (ge.at g.1) (.inr (.inl ⟨w,q,rfl⟩)))
  · exact (vv a (gd.at g.1) _ (by decide)).bind fun w e ge q=>.bindO rfl (.ret (ge.at g.1) (.inr (.inr ⟨w,q,rfl⟩)))
def qk (n:Bool) (p:ay):Prop:=p.Not=n∧p.Kind∈([⟨#[111,114,100,101,114]⟩,⟨#[112,97,105,100]⟩,⟨#[105,116,101,109]⟩,⟨#[111,114,100,101,114]⟩]:List ByteArray)∧p.Args.length≤2∧∀ a∈p.Args,BE a
theorem Hy {n:Bool} {p:ay} (h:qk n p):H8 p:=by
  obtain⟨_,h1,d,b⟩:=h
  exact⟨(show ∀ s∈([⟨#[111,114,100,101,114]⟩,⟨#[112,97,105,100]⟩,⟨#[105,116,101,109]⟩,⟨#[111,114,100,101,114]⟩]:List ByteArray),s.size≤16 by decide) _ h1,NR,fun a c=>Cc (b a c)⟩
theorem JZ {N:Nat} (t:1099000000000≤N) {b:List Int} (l:b.length≤1048576) {c:ab} (g:GC b c) (f:Bool):Dr b (qk f) (mY N c f):=by
  unfold mY
  refine (vv l g _ (by decide)).bind fun k d gd hk=>?_
  have lp:∀ (m:Nat),m≤2→∀ (n i:Nat) (s:List cJ) (x h:Int),i≤m→m - i < n→s.length=i→(∀ a∈s,BE a)→GC b ⟨c.b,x,h⟩→Dr b (qk f) (jG N c f (k,d) (m:Int) n s (i:Int) x h):=by
    intro m hm n
    induction n with
    | zero=>intro i _ _ _ _ h;omega
    | succ n r=>
      intro i s x h u v w o j
      simp only[jG]
      refine .ite (fun p=>?_) (fun y=>.ret j ⟨rfl,hk,by dsimp only;omega,o⟩)
      have p:=of_decide_eq_true p
      refine (Mv l j).bind fun a e ge q=>.bindO (sg NR NS) ?_
      rw[wr1 i NR]
      exact r (i+1) _ _ _ NR NR (by simp;omega) (nJ o q) (ge.at (c:=⟨c.b,x,h⟩) j.1)
  exact .ite (fun _=>lp 2 NR N 0 [] _ _ NR NR rfl NS (gd.at g.1)) (fun _=>lp 1 NR N 0 [] _ _ NR NR rfl NS (gd.at g.1))
def Gm (c:f9):Prop:=sK c.L∧sK c.R
def kt (a:cJ):Prop:=(∃ v,vp v∧a=⟨2,⟨#[]⟩,v⟩)∨∃ s∈([⟨#[88]⟩,⟨#[89]⟩,⟨#[90]⟩,⟨#[88]⟩]:List ByteArray),a=⟨1,s,⟨0,0,⟨#[]⟩⟩⟩
theorem Bc {N:Nat} {b:List Int} (a:b.length≤1048576) {c:ab} (g:GC b c):Dr b kt (m5 N c):=by
  unfold m5
  refine (rM a g 3).bind fun v d gd _=>.ite (fun _=>?_) fun _=>?_
  · exact (Bg a (gd.at g.1)).bind fun w e ge q=>.bindO rfl (.ret (ge.at g.1) (.inl ⟨w,q,rfl⟩))
  · exact (vv a (gd.at g.1) _ (by decide)).bind fun w e ge q=>.bindO rfl (.ret (ge.at g.1) (.inr ⟨w,(show ∀ s∈([⟨#[88]⟩,⟨#[89]⟩]:List ByteArray),s∈([⟨#[88]⟩,⟨#[89]⟩,⟨#[90]⟩,⟨#[88]⟩]:List ByteArray) by simp) w q,rfl⟩))
def KG (c:f9):Prop:=1≤c.Op∧c.Op≤3∧kt c.L∧kt c.R
theorem LD {N:Nat} {b:List Int} (a:b.length≤1048576) {c:ab} (g:GC b c):Dr b KG (pS N c):=by
  unfold pS
  refine (kM a g 3 NR).bind fun v d gd q=>(Bc a (gd.at g.1)).bind fun l e ge h=>(Bc a (ge.at g.1)).bind fun r f i qr=>.ret (i.at g.1) ⟨?_,?_,h,qr⟩
  · dsimp only;rw[wr NR NR];omega
  · dsimp only;rw[wr NR NR];omega
theorem I7 {N:Nat} {b:List Int} (a:b.length≤1048576) {c:ab} (g:GC b c) (l:List Int) (h:0 < l.length):Dr b (fun s=>s∈l) (nq N c l):=by
  unfold nq
  refine (kM a g (l.length:Int) NR).bind fun v d gd q=>?_
  obtain⟨j,rfl⟩:∃ j:Nat,v=(j:Int):=⟨v.toNat,NR⟩
  exact .bindO (ah (show j < l.length by omega)) (.ret (gd.at g.1) (hG _))
def CE (e:dY):Prop:=e.Op.size≤16∧sK e.L∧sK e.R
def HK (a:fd):Prop:=a.Name.size≤16∧a.Args.length≤16∧(∀ e∈a.Args,CE e)∧a.Undo.size≤16
def DK:cJ:=⟨0,⟨#[]⟩,⟨0,0,⟨#[]⟩⟩⟩
def vK (T:cJ→Prop) (e:dY):Prop:=T e.L∧((e.Op=⟨#[]⟩∧e.R=DK)∨e.Op∈([⟨#[43]⟩,⟨#[45]⟩]:List ByteArray)∧T e.R)
theorem H9 {T:cJ→Prop} (b:∀ a,T a→sK a) {e:dY} (h:vK T e):CE e:=by
  obtain⟨h1,⟨c,d⟩ | ⟨c,d⟩⟩:=h
  · exact⟨by rw[c];exact jt _,b _ h1,by rw[d];exact⟨jt _,jt _⟩⟩
  · exact⟨(show ∀ s∈([⟨#[43]⟩,⟨#[45]⟩]:List ByteArray),s.size≤16 by decide) _ c,b _ h1,b _ d⟩
theorem Lg {N:Nat} {b:List Int} (a:b.length≤1048576) {c:ab} (g:GC b c):Dr b (vK kt) (pA N c):=by
  unfold pA
  refine (Bc a g).bind fun l d gd h=>(rM a (gd.at g.1) 4).bind fun v e ge _=>.ite (fun _=>?_) fun _=>?_
  · exact (vv a (ge.at g.1) _ (by decide)).bind fun o f i j=>(Bc a (i.at g.1)).bind fun r k m qr=>.ret (m.at g.1) ⟨h,.inr ⟨j,qr⟩⟩
  · exact .ret (ge.at g.1) ⟨h,.inl ⟨rfl,rfl⟩⟩
def vM (T:cJ→Prop) (pos:Int) (a:fd):Prop:=a.Args.length≤2∧(∀ e∈a.Args,vK T e) ∧
  ((a.Kind=2∧a.Name=⟨#[]⟩∧a.Args=[]∧0≤a.N∧(0 < pos→a.N < pos)∧a.Undo=⟨#[]⟩) ∨
   ((a.Kind=5∨a.Kind=6)∧a.Name=⟨#[]⟩∧a.Args=[]∧a.N=0∧a.Undo=⟨#[]⟩) ∨
   ((a.Kind=1∨a.Kind=3∨a.Kind=4)∧a.Name∈([⟨#[111,114,100,101,114]⟩,⟨#[112,97,105,100]⟩,⟨#[105,116,101,109]⟩,⟨#[115,104,105,112]⟩,⟨#[99,104,97,114,103,101]⟩]:List ByteArray) ∧
     (a.N=0∨a.Kind=4∧a.N∈([0,1,5,100000]:List Int))∧(a.Undo=⟨#[]⟩∨a.Kind=3∧a.Undo∈([⟨#[114,101,102,117,110,100]⟩,⟨#[99,97,110,99,101,108]⟩]:List ByteArray))))
theorem IN {T:cJ→Prop} (c:∀ a,T a→sK a) {pos:Int} {a:fd} (h:vM T pos a):HK a:=by
  obtain⟨h1,d,b⟩:=h
  refine⟨?_,NR,fun e he=>H9 c (d e he),?_⟩
  · rcases b with h | h | h
    · rw[h.2.1];exact jt _
    · rw[h.2.1];exact jt _
    · exact (show ∀ s∈([⟨#[111,114,100,101,114]⟩,⟨#[112,97,105,100]⟩,⟨#[105,116,101,109]⟩,⟨#[115,104,105,112]⟩,⟨#[99,104,97,114,103,101]⟩]:List ByteArray),s.size≤16 by decide) _ h.2.1
  · rcases b with h | h | h
    · rw[h.2.2.2.2.2];exact jt _
    · rw[h.2.2.2.2];exact jt _
    · rcases h.2.2.2 with h | h
      · rw[h];exact jt _
      · exact (show ∀ s∈([⟨#[114,101,102,117,110,100]⟩,⟨#[99,97,110,99,101,108]⟩]:List ByteArray),s.size≤16 by decide) _ h.2
theorem MJ {N:Nat} (O:1099000000000≤N) {b:List Int} (j:b.length≤1048576) {c:ab} (g:GC b c) (pos:Int):Dr b (vM kt pos) (oY N c pos):=by
  unfold oY
  refine (I7 j g _ (by decide)).bind fun k d gd hk=>?_
  dsimp only
  by_cases p:k=2
  · refine .ite (fun _=>?_) (fun h=>absurd p (of_decide_eq_false h))
    exact (BO j (gd.at g.1) pos).bind fun v e ge q=>.ret (ge.at g.1) ⟨NS,NS,.inl ⟨p,rfl,rfl,q.1,q.2,rfl⟩⟩
  refine .ite (fun h=>absurd (of_decide_eq_true h) p) (fun _=>?_)
  have z:∀ (nm:ByteArray) (d0:ab) (l:List dY) (n:Int) (q:Bool) (x h:Int),GC b ⟨c.b,x,h⟩→(q=true→k=3) →
      (∀ u,(u=(⟨#[]⟩:ByteArray)∨k=3∧u∈([⟨#[114,101,102,117,110,100]⟩,⟨#[99,97,110,99,101,108]⟩]:List ByteArray))→vM kt pos ⟨k,nm,l,n,u⟩)→Dr b (vM kt pos) (iJ N c (k,d) (nm,d0) l n q x h):=by
    intro nm d0 l n q x h f F hu
    unfold iJ
    refine .ite (fun G=>?_) (fun _=>.ret f (hu _ (.inl rfl)))
    exact (vv j f _ (by decide)).bind fun u e ge H=>.ret (ge.at (c:=⟨c.b,x,h⟩) f.1) (hu _ (.inr ⟨F G,H⟩))
  have A:∀ (nm:ByteArray) (d0:ab) (l:List dY) (n:Int) (x h:Int),GC b ⟨c.b,x,h⟩ →
      (∀ u,(u=(⟨#[]⟩:ByteArray)∨k=3∧u∈([⟨#[114,101,102,117,110,100]⟩,⟨#[99,97,110,99,101,108]⟩]:List ByteArray))→vM kt pos ⟨k,nm,l,n,u⟩)→Dr b (vM kt pos) (jF N c (k,d) (nm,d0) l x h n):=by
    intro nm d0 l n x h f hu
    unfold jF
    refine .ite (fun I=>?_) (fun _=>z _ _ _ _ _ _ _ f (fun h=>by simp at h) hu)
    exact (rM j f 2).bind fun u e ge _=>z _ _ _ _ _ _ _ (ge.at (c:=⟨c.b,x,h⟩) f.1) (fun _=>of_decide_eq_true I) hu
  have lp:∀ (nm:ByteArray) (d0:ab),nm∈([⟨#[111,114,100,101,114]⟩,⟨#[112,97,105,100]⟩,⟨#[105,116,101,109]⟩,⟨#[115,104,105,112]⟩,⟨#[99,104,97,114,103,101]⟩]:List ByteArray)→(k=1∨k=3∨k=4) →
      ∀ (m:Nat),m≤2→∀ (n i:Nat) (s:List dY) (x h:Int),i≤m→m - i < n→s.length=i→(∀ a∈s,vK kt a)→GC b ⟨c.b,x,h⟩→Dr b (vM kt pos) (jH N c (k,d) (nm,d0) (m:Int) n s (i:Int) x h):=by
    intro nm d0 o B m hm n
    induction n with
    | zero=>intro i _ _ _ _ h;omega
    | succ n K=>
      intro i s x h P Q R r f
      simp only[jH]
      refine .ite (fun C=>?_) (fun S=>.ite (fun t=>?_) (fun _=>?_))
      · have C:=of_decide_eq_true C
        refine (Lg j f).bind fun a e ge q=>.bindO (sg NR NS) ?_
        rw[wr1 i NR]
        exact K (i+1) _ _ _ NR NR (by simp;omega) (nJ r q) (ge.at (c:=⟨c.b,x,h⟩) f.1)
      · have t:k=4:=of_decide_eq_true t
        exact (I7 j f _ (by decide)).bind fun v e ge q=>A _ _ _ _ _ _ (ge.at (c:=⟨c.b,x,h⟩) f.1) fun u hu=>⟨by dsimp only;omega,r,.inr (.inr ⟨B,o,.inr ⟨t,q⟩,hu⟩)⟩
      · exact A _ _ _ _ _ _ f fun u hu=>⟨by dsimp only;omega,r,.inr (.inr ⟨B,o,.inl rfl,hu⟩)⟩
  have T:Dr b (vM kt pos) (ed N c (k,d) true)→k=5∨k=6→Dr b (vM kt pos) (ed N c (k,d) true):=fun h _=>h
  have D:k=5∨k=6→Dr b (vM kt pos) (ed N c (k,d) true):=by
    intro L
    unfold ed
    simp only[if_true]
    exact .ret (gd.at g.1) ⟨NS,NS,.inr (.inl ⟨L,rfl,rfl,rfl,rfl⟩)⟩
  have M:k=1∨k=3∨k=4→Dr b (vM kt pos) (ed N c (k,d) false):=by
    intro E
    unfold ed
    simp only[fI,if_false]
    refine (vv j (gd.at g.1) _ (by decide)).bind fun nm e ge o=>?_
    unfold jz
    exact .ite (fun _=>lp nm e o E 2 NR N 0 [] _ _ NR NR rfl NS (ge.at g.1)) (fun _=>lp nm e o E 1 NR N 0 [] _ _ NR NR rfl NS (ge.at g.1))
  have U:k=1∨k=3∨k=4∨k=5∨k=6:=by
    simp at hk;omega
  by_cases w:k=5
  · rw[decide_eq_true w];simp only[if_true];exact D (.inl w)
  · rw[decide_eq_false w];simp only[fI,if_false]
    by_cases y:k=6
    · rw[decide_eq_true y];exact D (.inr y)
    · rw[decide_eq_false y];exact M NR
instance NP (v:ByteArray) (xs:List ByteArray):Decidable (v∈xs):=@List.instDecidableMemOfLawfulBEq _ instBEqOfDecidableEq _ v xs
theorem Ky {N:Nat} (b:1099000000000≤N) (xs:List ByteArray) (v:ByteArray) (c:xs.length≤4294967296):mW N xs v=some (decide (v∈xs)):=by
  unfold mW
  refine lp0 b xs c _ (fun t=>some (decide (v∈t))) (fun n i x t h1 a l d f g j=>?_) (fun n i h1 a=>?_)
  · simp only[jl,f,if_true,d,fz,g,j,kZ]
    by_cases h:x=v
    · simp[h]
    · have k : ¬ v=x:=fun e=>h e.symm
      simp[h,k]
  · simp only[jl,a,fI,if_false];simp
def dR (s:List ByteArray) (v:ByteArray):List ByteArray:=if v∈s then s else s++[v]
theorem vu (s:List ByteArray) (v:ByteArray):(dR s v).length≤s.length+1:=by unfold dR;split <;> simp
theorem HQ {s:List ByteArray} {v x:ByteArray}:x∈dR s v↔x∈s∨x=v:=by
  unfold dR;split
  · rename_i h
    constructor
    · exact .inl
    · rintro (a | rfl)
      · exact a
      · exact h
  · simp
theorem qN {x:ByteArray}:∀ {vs s:List ByteArray},x∈vs.foldl dR s↔x∈s∨x∈vs
  | [],s=>by simp
  | v :: vs,s=>by rw[qs,qN,HQ,hE,or_assoc]
theorem Bm {s:List ByteArray} {v:ByteArray} (h:v∈s):dR s v=s:=by unfold dR;rw[if_pos h]
theorem lT:∀ (vs s:List ByteArray),(vs.foldl dR s).length≤s.length+vs.length
  | [],s=>by simp
  | v :: vs,s=>by have:=lT vs (dR s v);have:=vu s v;simp only[qs,gh];omega
theorem Dq (s u:List ByteArray) (v:ByteArray):(dR u v).foldl dR s=dR (u.foldl dR s) v:=by
  by_cases h:v∈u
  · rw[Bm h,Bm (qN.2 (.inr h))]
  · have:dR u v=u++[v]:=by unfold dR;rw[if_neg h]
    rw[this,u0];rfl
theorem wY:∀ (vs u s:List ByteArray),(vs.foldl dR u).foldl dR s=vs.foldl dR (u.foldl dR s)
  | [],u,s=>rfl
  | v :: vs,u,s=>by rw[qs,wY vs (dR u v) s,Dq,qs]
theorem BW (vs s:List ByteArray):(vs.foldl dR []).foldl dR s=vs.foldl dR s:=wY vs [] s
theorem DB {B:Nat} {vs s:List ByteArray} (h:∀ x∈vs,x.size≤B) (a:∀ x∈s,x.size≤B):∀ x∈vs.foldl dR s,x.size≤B:=fun x b=>(qN.1 b).elim (a x) (h x)
def df:List cJ→List ByteArray
  | []=>[]
  | a :: t=>if a.K=1 then a.S :: df t else df t
theorem ji:∀ (l:List cJ),(df l).length≤l.length
  | []=>by simp[df]
  | a :: t=>by have:=ji t;unfold df;split <;> simp <;> omega
theorem nT {x:ByteArray}:∀ {l:List cJ},x∈df l↔∃ a∈l,a.K=1∧a.S=x
  | []=>by simp[df]
  | a :: t=>by
    unfold df
    split
    · rename_i h;simp[nT,h,eq_comm]
    · rename_i h;simp[nT,h]
theorem LR {N:Nat} (a:1099000000000≤N) (p:ay) (j:p.Args.length≤1048576):oU N p=some ((df p.Args).foldl dR []):=by
  unfold oU
  refine lp' a p.Args NR (gG N p) (fun t s=>some ((df t).foldl dR s)) (fun s t=>s.length+t.length≤4294967290) [] (by simp;omega) (fun n s i x t h1 b k e f g c d=>?_) (fun n s i h1 b c=>?_)
  · simp only[gh] at c
    simp only[gG,f,if_true,e,fz,g,df,Ky a s x.S NR]
    by_cases h:x.K=1
    · simp only[h,decide_true,if_true,fz,qs]
      have:=d (dR s x.S) (by have:=vu s x.S;omega)
      unfold dR at this ⊢
      by_cases hm:x.S∈s
      · simp only[hm,if_true] at this
        simpa[hm] using this
      · simp only[hm,if_false] at this
        simp only[hm,decide_false,hI,if_true,bO (show s.length+[x.S].length≤4294967296 by simp;omega),fz,if_false]
        exact this
    · simp only[h,decide_false,fI,if_false,fz]
      exact d _ NR
  · simp only[gG,b,fI,if_false];rfl
def d9:List ay→List ByteArray
  | []=>[]
  | p :: t=>if p.Not then d9 t else df p.Args++d9 t
def jW (l:List ay):Nat:=(l.map fun p=>p.Args.length).sum
theorem rk:∀ (l:List ay),(d9 l).length≤jW l
  | []=>by simp[d9,jW]
  | p :: t=>by
    have h1:=rk t
    have b:=ji p.Args
    have a:jW (p :: t)=p.Args.length+jW t:=by simp[jW]
    rw[a]
    unfold d9
    split
    · omega
    · rw[gi];omega
theorem Fu {N:Nat} (b:1099000000000≤N) (r:af) (A:r.Pats.length≤1048576) (B:jW r.Pats≤1048576) (hp:∀ p∈r.Pats,p.Args.length≤1048576):m4 N r=some ((d9 r.Pats).foldl dR []):=by
  unfold m4
  refine lp' b r.Pats NR (dH N r) (fun t s=>some ((d9 t).foldl dR s)) (fun s t=>s.length+jW t≤4294967290) [] (by simp;omega) (fun n s i x t h1 c C d k g h j=>?_) (fun n s i h1 c h=>?_)
  · have D:s.length+(x.Args.length+jW t)≤4294967290:=by simpa[jW] using h
    have l:=hp x c
    simp only[dH,k,if_true,d,fz,LR b x l,d9]
    have o:=lT (df x.Args) []
    have E:=ji x.Args
    simp only[gk,ho] at o
    have key:dy N r i (dH N r n) ((df x.Args).foldl dR []) N s 0=if x.Not then some ((d9 t).foldl dR s) else some ((d9 t).foldl dR (((df x.Args).foldl dR []).foldl dR s)):=by
      cases e:x.Not with
      | true=>
        obtain⟨m,rfl⟩:∃ m,N=m+1:=⟨N - 1,NR⟩
        have q:=j s NR
        simp only[dy,d,fz,e,hA,g,q]
        split <;> rfl
      | false=>
        refine lp' b ((df x.Args).foldl dR []) NR (dy N r i (dH N r n) ((df x.Args).foldl dR [])) (fun u s=>some ((d9 t).foldl dR (u.foldl dR s))) (fun s u=>s.length+u.length+jW t≤4294967290) s NR (fun v a w y u g1 g2 g3 g4 g5 g6 f z=>?_) (fun v a w g1 g2 f=>?_)
        · simp only[gh] at f
          simp only[dy,g5,if_true,d,fz,e,hI,g4,Ky b a y NR,qs,g6]
          have:=z (dR a y) (by have:=vu a y;omega)
          unfold dR at this ⊢
          by_cases hm:y∈a
          · simp only[hm,if_true] at this
            simpa[hm] using this
          · simp only[hm,if_false] at this
            simp only[hm,decide_false,hI,if_true,bO (show a.length+[y].length≤4294967296 by simp;omega),fz,if_false]
            exact this
        · simp only[dy,g2,fI,if_false,fz,g]
          exact j a (by simp at f;omega)
    rw[show (dy N r i (dH N r n) ((df x.Args).foldl dR []) N s 0)=_ from key]
    cases e:x.Not with
    | true=>simp
    | false=>simp[u0,BW]
  · simp only[dH,c,fI,if_false];rfl
def jv (r:af):List ByteArray:=(d9 r.Pats).foldl dR []
theorem Fv {r:af} (h:jW r.Pats≤1048576):(jv r).length≤1048576:=by
  have h1:=lT (d9 r.Pats) []
  have a:=rk r.Pats
  unfold jv;simp at h1;omega
def ak:List ay→Nat
  | []=>0
  | p :: t=>if p.Not then ak t else ak t+1
theorem et:∀ (l:List ay),ak l≤l.length
  | []=>by simp[ak]
  | p :: t=>by have:=et t;unfold ak;split <;> simp <;> omega
theorem DI {N:Nat} (d:1099000000000≤N) (r:af) (h:r.Pats.length≤1048576):kE N r=some (ak r.Pats:Int):=by
  unfold kE
  have:=lp' d r.Pats NR (ek N r) (fun t s=>some (s+(ak t:Int))) (fun s t=>0≤s∧s+t.length≤1048576) (0:Int) (by simp;omega) (fun n s i x t h1 a j e f g b c=>by
    simp only[gh] at b
    simp only[ek,f,if_true,e,fz,g,ak]
    cases k:x.Not with
    | true=>simpa using c s NR
    | false=>
      rw[wr (n:=s+1) NR NR]
      have:=c (s+1) NR
      simp only[hI,if_true,this,fI,if_false]
      congr 1;omega) (fun n s i h1 a b=>by simp only[ek,a,fI,if_false,ak];simp)
  simpa using this
def kV (vs:List ByteArray) (a:cJ):Bool:=!decide (a.K=1) || decide (a.S∈vs)
theorem Jq {N:Nat} (b:1099000000000≤N) (a:cJ) (vs:List ByteArray) (h:vs.length≤4294967296):nP N a vs=some (kV vs a):=by
  unfold nP kV
  simp only[Ky b vs a.S h,fz,Nu]
def Dy (r:af):Prop:=r.Name.size≤16∧(r.Pats.length≤16∧∀ p∈r.Pats,H8 p)∧(r.Conds.length≤16∧∀ c∈r.Conds,Gm c)∧r.Acts.length≤16∧∀ a∈r.Acts,HK a
def ij (vs:List ByteArray) (a:cJ):Prop:=(∃ v,vp v∧a=⟨2,⟨#[]⟩,v⟩)∨∃ s∈vs,a=⟨1,s,⟨0,0,⟨#[]⟩⟩⟩
theorem AH {N:Nat} (d:1099000000000≤N) {vs:List ByteArray} (b:vs.length≤4194304) {a:cJ} (h:kt a):∃ c,m7 N a vs=some c∧ij vs c:=by
  unfold m7
  rw[Jq d a vs NR,fz]
  rcases h with ⟨v,b,rfl⟩ | ⟨s,j,rfl⟩
  · exact⟨_,by simp[kV],.inl ⟨v,b,rfl⟩⟩
  · by_cases hm:s∈vs
    · exact⟨_,by simp[kV,hm],.inr ⟨s,hm,rfl⟩⟩
    · have e:kV vs ⟨1,s,⟨0,0,⟨#[]⟩⟩⟩=false:=by simp[kV,hm]
      simp only[e,fI,if_false]
      cases vs with
      | nil=>exact⟨_,rfl,.inl ⟨⟨1,1,⟨#[]⟩⟩,.inl ⟨1,NR,NR,rfl⟩,rfl⟩⟩
      | cons x t=>
        have f:decide (((x :: t).length:Int)=0)=false:=decide_eq_false (by simp only[gh];omega)
        have g:idx (x :: t) 0=some x:=ah (xs:=x :: t) (i:=0) NS
        simp only[f,fI,if_false,g,fz]
        exact⟨_,rfl,.inr ⟨x,NS,rfl⟩⟩
theorem CJ {vs:List ByteArray} (b:∀ s∈vs,s.size≤16) {a:cJ} (h:ij vs a):sK a:=by
  rcases h with ⟨v,h,rfl⟩ | ⟨s,h,rfl⟩
  · exact⟨jt _,xH h⟩
  · exact⟨b s h,jt _⟩
def kY (l:List ay):Prop:=∃ ps ns,l=ps++ns∧1≤ps.length∧ps.length≤3∧ns.length≤1∧(∀ p∈ps,qk false p)∧∀ p∈ns,qk true p
theorem oP {l:List ay} (h:kY l):∀ p∈l,∃ n,qk n p:=by
  obtain⟨ps,ns,rfl,-,-,-,h1,a⟩:=h
  intro p hp
  rcases gb.1 hp with h | h
  · exact⟨_,h1 p h⟩
  · exact⟨_,a p h⟩
theorem rF {l:List ay} (h:kY l):1≤l.length∧l.length≤4:=by
  obtain⟨ps,ns,rfl,h1,a,b,-⟩:=h
  rw[gi];omega
theorem yg {B:Nat}:∀ {l:List ay},(∀ p∈l,p.Args.length≤B)→jW l≤l.length*B
  | [],_=>by simp[jW]
  | p :: t,h=>by
    have h1:=yg (l:=t) fun q a=>h q (by simp[a])
    have c:=h p NS
    have b:jW (p :: t)=p.Args.length+jW t:=by simp[jW]
    rw[b,gh,hB];omega
theorem wV {l:List ay} (h:kY l):jW l≤8:=by
  have h1:=yg (B:=2) fun p hp=>(oP h p hp).elim fun n a=>a.2.2.1
  have:=rF h
  omega
theorem B2 {B:Nat} {l:List cJ} (h:∀ a∈l,a.S.size≤B):∀ x∈df l,x.size≤B:=fun x b=>by
  obtain⟨a,c,_,rfl⟩:=nT.1 b;exact h a c
theorem qv {B:Nat}:∀ {l:List ay},(∀ p∈l,∀ a∈p.Args,a.S.size≤B)→∀ x∈d9 l,x.size≤B
  | [],_,x,b=>by simp[d9] at b
  | p :: t,h,x,b=>by
    unfold d9 at b
    split at b
    · exact qv (fun q c=>h q (by simp[c])) x b
    · rcases gb.1 b with b | b
      · exact B2 (h p NS) x b
      · exact qv (fun q c=>h q (by simp[c])) x b
def bnd (l:List ay):List ByteArray:=(d9 l).foldl dR []
theorem L5 {l:List ay} (h:kY l):∀ s∈bnd l,s.size≤16:=DB (qv fun p hp a b=>(oP h p hp).elim fun n c=>(Cc (c.2.2.2 a b)).1) NS
theorem DM {l:List ay} (h:kY l):(bnd l).length≤8:=by
  have h1:=lT (d9 l) []
  have a:=rk l
  have b:=wV h
  simp only[gk] at h1
  unfold bnd;omega
def qD (nm:ByteArray) (r:af):Prop:=r.Name=nm∧r.Sal∈([0,0,5,(-5),100]:List Int)∧kY r.Pats∧(r.Conds.length≤1∧∀ c∈r.Conds,1≤c.Op∧c.Op≤3∧ij (bnd r.Pats) c.L∧ij (bnd r.Pats) c.R) ∧
  (1≤r.Acts.length∧r.Acts.length≤3∧∀ a∈r.Acts,vM (ij (bnd r.Pats)) (ak r.Pats) a)
theorem FF {nm:ByteArray} {r:af} (b:nm.size≤16) (h:qD nm r):Dy r:=by
  obtain⟨h1,_,d,⟨j,g⟩,h5,h6,h7⟩:=h
  have e:∀ a,ij (bnd r.Pats) a→sK a:=fun a f=>CJ (L5 d) f
  have:=rF d
  exact⟨by rw[h1];exact b,⟨NR,fun p hp=>(oP d p hp).elim fun n b=>Hy b⟩,⟨NR,fun c i=>⟨e _ (g c i).2.2.1,e _ (g c i).2.2.2⟩⟩,NR,fun a f=>IN e (h7 a f)⟩
theorem NO {N:Nat} (k:1099000000000≤N) {b:List Int} {vs:List ByteArray} (l:vs.length≤4194304) (f:List fd) (g:Int) (K:List fd→Int→Int→Int→Option (af × ab)) (c:fd × ab) {R:af→Prop} {m:Nat} (hm:m≤4194304)
    (u:∀ es:List dY,es.length=m→(∀ e∈es,vK (ij vs) e)→Dr b R ((app f [⟨c.1.Kind,c.1.Name,es,c.1.N,c.1.Undo⟩]).bind fun v=>K v (IntKind.i64.wrap (g - 1)) c.2.i c.2.h)) :
    ∀ (n:Nat) (todo done:List dY),todo.length < n→done.length+todo.length=m→(∀ e∈done,vK (ij vs) e)→(∀ e∈todo,vK kt e)→Dr b R (gH N vs f g K c n (done++todo) (done.length:Int)):=by
  intro n
  induction n with
  | zero=>intro _ _ h;omega
  | succ n w=>
    intro todo done x o p q
    simp only[gH]
    cases todo with
    | nil=>
      have i:decide ((done.length:Int) < ((done++([]:List dY)).length:Int))=false:=decide_eq_false NS
      rw[i]
      simp only[fI,if_false,j2]
      exact u done (by simpa using o) p
    | cons e t=>
      have i:decide ((done.length:Int) < ((done++e :: t).length:Int))=true:=decide_eq_true (by simp;omega)
      have z:idx (done++e :: t) (done.length:Int)=some e:=by
        rw[ah (show done.length < (done++e :: t).length by simp)];simp
      have A:∀ y,(done++e :: t).set ((done.length:Int)).toNat y=(done++[y])++t:=fun y=>by
        rw[hW,qu _ _ (hn _)];simp
      simp only[gh] at x o
      rw[i]
      simp only[if_true]
      refine .bindO z ?_
      obtain⟨B,d⟩:=q e NS
      obtain⟨l',el,r⟩:=AH k l B
      refine .bindO el ?_
      have next:∀ y,vK (ij vs) y→Dr b R (gH N vs f g K c n ((done++e :: t).set ((done.length:Int)).toNat y) (IntKind.i64.wrap ((done.length:Int)+1))):=by
        intro y C
        rw[A,wr1 _ NR]
        have:=w t (done++[y]) NR (by simp;omega) (nJ p C) (fun a D=>q a (by simp[D]))
        simpa using this
      rcases d with ⟨hO,d⟩ | ⟨hO,d⟩
      · have j:(!seq e.Op ⟨#[]⟩)=false:=by rw[kZ,hO];simp
        rw[j]
        exact next _ ⟨r,.inl ⟨hO,d⟩⟩
      · have j:(!seq e.Op ⟨#[]⟩)=true:=by
          have:e.Op≠⟨#[]⟩:=(show ∀ s∈([⟨#[43]⟩,⟨#[45]⟩]:List ByteArray),s≠⟨#[]⟩ by decide) _ hO
          rw[kZ];simp[this]
        rw[j]
        obtain⟨G,E,F⟩:=AH k l d
        exact .bindO E (next _ ⟨r,.inr ⟨hO,F⟩⟩)
theorem FB {N:Nat} (a:1099000000000≤N) (r:af) (h:kY r.Pats):m4 N r=some (bnd r.Pats):=by
  have h1:=rF h
  have c:=wV h
  exact Fu a r NR NR fun p hp=>by
    obtain⟨n,b⟩:=oP h p hp
    have:=b.2.2.1
    omega
theorem Ll {N:Nat} (o:1099000000000≤N) {b:List Int} (l:b.length≤1048576) {c:ab} (g:GC b c) (nm:ByteArray):Dr b (qD nm) (pE N c nm):=by
  unfold pE
  refine (I7 l g _ (by decide)).bind fun u d gd F=>(kM l (gd.at g.1) 3 NR).bind fun v0 Q G S=>?_
  -- the acts
  have H:∀ (i:List ay) (conds:List f9),kY i→(conds.length≤1∧∀ c∈conds,1≤c.Op∧c.Op≤3∧ij (bnd i) c.L∧ij (bnd i) c.R) →
      ∀ (n:Nat) (s:List fd) (k x h:Int),0≤k→k < n→1≤s.length+k→s.length+k≤3→(∀ a∈s,vM (ij (bnd i)) (ak i) a)→GC b ⟨c.b,x,h⟩→Dr b (qD nm) (gR N c nm (u,d) i (bnd i) conds n s k x h):=by
    intro i conds hp w n
    have T:=rF hp
    induction n with
    | zero=>intro s k x h y h1;omega
    | succ n z=>
      intro s k x h y h1 I K B j
      simp only[gR]
      refine .ite (fun hk=>?_) (fun hk=>?_)
      · have hk:=of_decide_eq_true hk
        refine .bindO (DI o _ (show i.length≤1048576 by omega)) ((MJ o l j _).bind fun a f r A=>?_)
        have U:=A.1
        have:=NO o (b:=b) (vs:=bnd i) (by have:=DM hp;omega) s k (gR N c nm (u,d) i (bnd i) conds n) (a,f) (R:=qD nm) (m:=a.Args.length) NR (fun es t he=>by
          refine .bindO (sg NR NS) ?_
          rw[wrm hk NR]
          refine z _ (k - 1) _ _ NR NR (by simp;omega) (by simp;omega) (nJ B ?_) (r.at (c:=⟨c.b,x,h⟩) j.1)
          refine⟨by dsimp only;omega,he,?_⟩
          rcases A.2.2 with h | h | h
          · exact .inl ⟨h.1,h.2.1,by have:=h.2.2.1;rw[this] at t;exact qo t,h.2.2.2⟩
          · exact .inr (.inl ⟨h.1,h.2.1,by have:=h.2.2.1;rw[this] at t;exact qo t,h.2.2.2⟩)
          · exact .inr (.inr h)) N a.Args [] NR NS NS A.2.1
        exact this
      · have hk:=of_decide_eq_false hk
        exact .ret j ⟨rfl,F,hp,w,by dsimp only;omega,by dsimp only;omega,B⟩
  have C:∀ (i:List ay) (conds:List f9),kY i→(conds.length≤1∧∀ c∈conds,1≤c.Op∧c.Op≤3∧ij (bnd i) c.L∧ij (bnd i) c.R)→∀ (x h:Int),GC b ⟨c.b,x,h⟩→Dr b (qD nm) (jL N c nm (u,d) i (bnd i) conds x h):=by
    intro i conds hp w x h j
    unfold jL
    refine (kM l j 3 NR).bind fun v e ge q=>?_
    dsimp only
    rw[wr (show -9223372036854775808≤1+v by omega) NR]
    exact H i conds hp w N [] _ _ _ NR NR (by simp;omega) (by simp;omega) NS (ge.at (c:=⟨c.b,x,h⟩) j.1)
  have D:∀ (i:List ay),kY i→∀ (x h:Int),GC b ⟨c.b,x,h⟩→Dr b (qD nm) (jA N c nm (u,d) i x h):=by
    intro i hp x h j
    unfold jA
    have E:(bnd i).length≤4194304:=by have:=DM hp;omega
    refine .bindO (FB o _ hp) ((rM l j 3).bind fun v e ge _=>.ite (fun _=>?_) (fun _=>?_))
    · refine (LD l (ge.at (c:=⟨c.b,x,h⟩) j.1)).bind fun cd f r qc=>?_
      obtain⟨l',el,t⟩:=AH o E qc.2.2.1
      obtain⟨V,L,M⟩:=AH o E qc.2.2.2
      refine .bindO el (.bindO L (.bindO (sg NS NS) ?_))
      exact C i _ hp ⟨NS,by simp;exact⟨qc.1,qc.2.1,t,M⟩⟩ _ _ (r.at (c:=⟨c.b,x,h⟩) j.1)
    · exact C i [] hp ⟨NS,NS⟩ _ _ (ge.at (c:=⟨c.b,x,h⟩) j.1)
  have O:∀ (n:Nat) (s:List ay) (k x h:Int),0≤k→k < n→1≤s.length+k→s.length+k≤3→(∀ p∈s,qk false p)→GC b ⟨c.b,x,h⟩→Dr b (qD nm) (jJ N c nm (u,d) n s k x h):=by
    intro n
    induction n with
    | zero=>intro s k x h y h1;omega
    | succ n z=>
      intro s k x h y h1 I K hp j
      simp only[jJ]
      refine .ite (fun hk=>?_) (fun hk=>?_)
      · have hk:=of_decide_eq_true hk
        refine (JZ o l j false).bind fun p f r qp=>.bindO (sg NR NS) ?_
        rw[wrm hk NR]
        exact z _ (k - 1) _ _ NR NR (by simp;omega) (by simp;omega) (nJ hp qp) (r.at (c:=⟨c.b,x,h⟩) j.1)
      · have hk:=of_decide_eq_false hk
        refine (rM l j 3).bind fun v f r _=>.ite (fun _=>?_) (fun _=>?_)
        · refine (JZ o l (r.at (c:=⟨c.b,x,h⟩) j.1) true).bind fun p W P qp=>.bindO (sg NR NS) ?_
          exact D _ ⟨s,[p],rfl,NR,NR,NS,hp,by simpa using qp⟩ _ _ (P.at (c:=⟨c.b,x,h⟩) j.1)
        · exact D _ ⟨s,[],NS,NR,NR,NS,hp,NS⟩ _ _ (r.at (c:=⟨c.b,x,h⟩) j.1)
  dsimp only
  rw[wr (show -9223372036854775808≤1+v0 by omega) NR]
  exact O N [] _ _ _ NR NR (by simp;omega) (by simp;omega) NS (G.at g.1)
theorem Fw (f:Nat→Int→Option Bool) (a:Nat) (hm:a≤4611686018427387903) (e:Nat→Bool) (z:Bool)
    (h:∀ k (i:Nat),i < a→f (k+1) i=if e i then f k (IntKind.i64.wrap ((i:Int)+1)) else some false) (c:∀ k (i:Nat),i=a→f (k+1) i=some z) :
    ∀ (n i:Nat),i≤a→a - i < n→f n i=some (((List.range a).drop i).all e && z):=by
  intro n
  induction n with
  | zero=>intro i _ h;omega
  | succ n d=>
    intro i g j
    by_cases b:i < a
    · rw[h n i b,gI (by simpa using b),List.getElem_range,n0]
      cases he:e i with
      | false=>simp
      | true=>simp only[if_true,hV];rw[wr1 i NR,d (i+1) NR NR]
    · have:i=a:=by omega
      rw[c n i this,hz (by simp;omega)]
      simp
theorem in0 (N:Nat) (a b c:Int):tf N a b c=some (decide (b≤a) && decide (a≤c)):=by
  unfold tf
  by_cases h:b≤a <;> simp[h]
theorem in1 (N:Nat) (a b c:Int):dB N a b c=some (decide (b≤a) && decide (a≤c)):=by
  unfold dB
  by_cases h:b≤a <;> simp[h]
def uD (y:UInt8):Bool:=(decide (97≤(y.toNat:Int)) && decide ((y.toNat:Int)≤122)) || (decide (48≤(y.toNat:Int)) && decide ((y.toNat:Int)≤57)) || decide ((y.toNat:Int)=95)
theorem Cb (N:Nat) (y:UInt8):iR N (y.toNat:Int)=some (uD y):=by
  unfold iR kz pX uD
  generalize (y.toNat:Int)=n
  rw[sf,sf,fz,fz,fz,fz,orS,fz,orS]
  rfl
def BT (y:UInt8):Bool:=decide (97≤(y.toNat:Int)) && decide ((y.toNat:Int)≤122)
def vJ (s:ByteArray):Bool:=((List.range s.size).drop 0).all (fun i=>match s.data.toList[i]? with | some y=>uD y | none=>false)
theorem wu (s:ByteArray):s.data.toList.length=s.size:=rfl
theorem GE {N:Nat} (c:1048578≤N) (s:ByteArray) (n:Int) (d:s.size≤1048576):mU N s n=some (vJ s && decide ((s.size:Int)≤n)):=by
  unfold mU
  have:fw N s N 0=some (vJ s && true):=by
    refine Fw (fun n i=>fw N s n i) s.size NR _ _ (fun k i a=>?_) (fun k i a=>?_) N 0 NR NR
    · have b:i < s.data.toList.length:=by rw[wu];exact a
      simp only[fw,ah b,fz,Cb,gj b]
      rw[if_pos (by simp;omega)]
      cases uD s.data.toList[i] <;> simp
    · simp only[fw]
      rw[if_neg (by simp;omega)]
  rw[this]
  by_cases h:n < (s.size:Int)
  · rw[if_pos (by simpa using h),decide_eq_false NR,K5]
  · rw[if_neg (by simpa using h),decide_eq_true (show (s.size:Int)≤n by omega)]
theorem Lj {N:Nat} (b:1048578≤N) (s:ByteArray) (c:s.size≤1048576):ia N s=some ((match s.data.toList[0]? with | some y=>BT y | none=>false) && (vJ s && decide ((s.size:Int)≤12))):=by
  unfold ia
  rw[GE b s 12 c]
  by_cases h:0 < s.size
  · have a:0 < s.data.toList.length:=by rw[wu];exact h
    have d:idx s.data.toList 0=some s.data.toList[0]:=by simpa using ah (i:=0) a
    rw[if_pos (by simpa using h),d,gj a]
    have:kz N (s.data.toList[0].toNat:Int)=some (BT s.data.toList[0]):=by
      unfold kz BT
      generalize (s.data.toList[0].toNat:Int)=n
      by_cases h1:97≤n <;> simp[h1]
    simp only[fz,this]
    cases BT s.data.toList[0] <;> simp
  · rw[if_neg (by simpa using h),List.getElem?_eq_none (by rw[wu];omega)]
    rfl
def tR (v:bN):Bool:=if v.K=1 then (decide (-1000000000≤v.N) && decide (v.N≤1000000000)) && seq v.S ⟨#[]⟩ else if v.K=2 then decide (v.N=0) && (vJ v.S && decide ((v.S.size:Int)≤20)) else false
theorem K0 {N:Nat} (b:1048578≤N) (v:bN) (c:v.S.size≤1048576):oL N v=some (tR v):=by
  unfold oL tR
  rw[GE b _ _ c,in1]
  by_cases h1:v.K=1
  · simp only[h1,decide_true,if_true,fz]
    cases (decide (-1000000000≤v.N) && decide (v.N≤1000000000)) <;> simp
  · by_cases a:v.K=2
    · by_cases d:v.N=0 <;> simp[a,d]
    · simp[h1,a]
def yV (y:UInt8):Bool:=decide (65≤(y.toNat:Int)) && decide ((y.toNat:Int)≤90)
theorem EA (N:Nat) (y:UInt8):lR N (y.toNat:Int)=some (yV y):=by
  unfold lR yV;cases decide (65≤(y.toNat:Int)) <;> rfl
def DQ (s:ByteArray):Bool:=match s.data.toList with
  | []=>false
  | b :: t=>yV b && (t.all (fun y=>uD y || yV y) && decide ((s.size:Int)≤12))
theorem ME {N:Nat} (j:1099000000000≤N) (s:ByteArray) (k:s.size≤1048576):qR N s=some (DQ s):=by
  have c:s.size=s.data.toList.length:=rfl
  have lp:=E8 (ir N s) s.data.toList NR (fun y=>uD y || yV y) true 0 (fun n i y _ f _ a hw=>by
    rw[← c] at a
    simp only[ir,a,if_true,f,fz,Cb,EA,hw]
    cases uD y <;> cases yV y <;> rfl) (fun n i a=>by rw[← c] at a;simp only[ir,a,fI,if_false])
  unfold qR DQ
  cases d:s.data.toList with
  | nil=>
    have:s.size=0:=by rw[c,d];rfl
    rw[this];rfl
  | cons b t=>
    have h1:s.size=t.length+1:=by rw[c,d];rfl
    have c1:decide ((s.size:Int) < 1)=false:=decide_eq_false NR
    have:=lp N 0 NR NR NR
    rw[d] at this
    have g:idx (b :: t) 0=some b:=rfl
    simp only[c1,fI,if_false,fz,g,EA]
    by_cases c2:(s.size:Int)≤12
    · have e:decide (12 < (s.size:Int))=false:=decide_eq_false NR
      simp only[c2,e,decide_true,ti,fI,if_false,fz]
      cases h:yV b with
      | false=>rfl
      | true=>
        simp only[hA,fI,if_false,hV]
        refine this.trans ?_
        simp[h]
    · have e:decide (12 < (s.size:Int))=true:=decide_eq_true NR
      simp only[c2,e,decide_false,K5,if_true,fz]
def xa (a:cJ):Prop:=a.S.size≤1048576∧a.V.S.size≤1048576
def qX (a:cJ):Bool:=if a.K=1 then DQ a.S && bQ a.V ⟨0,0,⟨#[]⟩⟩ else if a.K=2 then tR a.V && seq a.S ⟨#[]⟩ else if a.K=3 then seq a.S ⟨#[]⟩ && bQ a.V ⟨0,0,⟨#[]⟩⟩ else false
theorem K6 {N:Nat} (b:1099000000000≤N) (a:cJ) (h:xa a):oK N a=some (qX a):=by
  unfold oK qX
  rw[ME b _ h.1,K0 NR _ h.2]
  simp only[fz,sf,decide_eq_true_eq,L2]
  split <;> (try split) <;> (try split) <;> simp[L2]
def u9 (a:cJ):Bool:=qX a && !decide (a.K=3)
theorem xA {N:Nat} (b:1099000000000≤N) (a:cJ) (h:xa a):jp N a=some (u9 a):=by
  unfold jp u9;simp only[K6 b a h,fz,sf,L2]
def Dg (e:dY):Prop:=e.Op.size≤1048576∧xa e.L∧xa e.R
def pw (e:dY):Bool:=if seq e.Op ⟨#[]⟩ then u9 e.L && qG e.R ⟨0,⟨#[]⟩,⟨0,0,⟨#[]⟩⟩⟩ else (seq e.Op ⟨#[43]⟩ || seq e.Op ⟨#[45]⟩) && (u9 e.L && u9 e.R)
theorem KS {N:Nat} (a:1099000000000≤N) (e:dY) (h:Dg e):pM N e=some (pw e):=by
  unfold pM jB pw
  simp only[xA a _ h.2.1,xA a _ h.2.2,fz,sf]
  cases seq e.Op ⟨#[]⟩ <;> cases seq e.Op ⟨#[43]⟩ <;> cases seq e.Op ⟨#[45]⟩ <;> rfl
def gy (s:ByteArray):Bool:=(match s.data.toList[0]? with | some y=>BT y | none=>false) && (vJ s && decide ((s.size:Int)≤12))
theorem qP {N:Nat} (b:1099000000000≤N) (s:ByteArray) (a:s.size≤1048576):ia N s=some (gy s):=Lj NR s a
def Ex (a:fd):Prop:=a.Name.size≤1048576∧a.Undo.size≤1048576∧a.Args.length≤1048576∧∀ e∈a.Args,Dg e
theorem KD {N:Nat} (e:1099000000000≤N) (a:fd) (h:Ex a):lO N a=some (gy a.Name && (a.Args.all pw && decide ((a.Args.length:Int)≤5))):=by
  obtain⟨h1,k,l,f⟩:=h
  unfold lO
  have:=E8 (fm N a) a.Args NR pw true 0 (fun n i y _ g hm b hw=>by
    simp only[fm,b,if_true,g,fz,KS e y (f y hm),hw];cases pw y <;> rfl) (fun n i b=>by simp only[fm,b,fI,if_false]) N 0 NR NR NR
  have j:fm N a N 0=some (a.Args.all pw):=by simpa using this
  simp only[qP e _ h1,fz,j]
  cases gy a.Name with
  | false=>rfl
  | true=>
    by_cases c:(a.Args.length:Int)≤5
    · have d:decide (5 < (a.Args.length:Int))=false:=decide_eq_false NR
      simp only[c,d,decide_true,ti,hV,hA,fI,if_false,fz]
    · have d:decide (5 < (a.Args.length:Int))=true:=decide_eq_true NR
      simp only[c,d,decide_false,K5,hA,fI,if_false,if_true,fz]
def rU (a:fd):Bool:=
  let na:=gy a.Name && (a.Args.all pw && decide ((a.Args.length:Int)≤5))
  let bare:=seq a.Name ⟨#[]⟩ && decide ((a.Args.length:Int)=0)
  if a.Kind=1 then na && decide (a.N=0) && seq a.Undo ⟨#[]⟩
  else if a.Kind=2 then bare && (decide (0≤a.N) && decide (a.N≤7)) && seq a.Undo ⟨#[]⟩
  else if a.Kind=3 then na && decide (a.N=0) && (seq a.Undo ⟨#[]⟩ || gy a.Undo)
  else if a.Kind=4 then na && (decide (0≤a.N) && decide (a.N≤100000)) && seq a.Undo ⟨#[]⟩
  else if a.Kind=5∨a.Kind=6 then bare && decide (a.N=0) && seq a.Undo ⟨#[]⟩
  else false
theorem Mi {N:Nat} (b:1099000000000≤N) (a:fd) (h:Ex a):rd N a=some (rU a):=by
  have k:=KD b a h
  obtain⟨h1,l,m,o⟩:=h
  unfold rd kL rm rU
  simp only[k,qP b _ l,in1,fz,sf,orS,decide_eq_true_eq]
  generalize gy a.Name=n;generalize a.Args.all pw=e;generalize gy a.Undo=u;generalize seq a.Name ⟨#[]⟩=sn;generalize seq a.Undo ⟨#[]⟩=su
  by_cases c:a.Kind=1
  · simp[c] <;> (cases n <;> cases e <;> simp)
  by_cases d:a.Kind=3
  · simp[d] <;> (cases n <;> cases e <;> simp)
  by_cases f:a.Kind=4
  · simp[f] <;> (cases n <;> cases e <;> simp)
  by_cases g:a.Kind=2
  · simp[g] <;> (cases sn <;> cases su <;> simp)
  by_cases i:a.Kind=5
  · simp[i] <;> (cases sn <;> cases su <;> simp)
  · by_cases j:a.Kind=6
    · simp[j] <;> (cases sn <;> cases su <;> simp)
    · simp[c,g,d,f,i,j]
def E7 (p:ay):Prop:=p.Kind.size≤1048576∧p.Args.length≤1048576∧∀ a∈p.Args,xa a
def tV (p:ay):Bool:=gy p.Kind && (decide ((p.Args.length:Int)≤5) && p.Args.all qX)
theorem Mn {N:Nat} (a:1099000000000≤N) (p:ay) (h:E7 p):qW N p=some (tV p):=by
  obtain⟨h1,e,d⟩:=h
  have lp:=lp0 a p.Args NR (iz N p) (fun t=>some (t.all qX)) (fun n i x t g1 g2 g3 g4 g5 g6 g7=>by
    simp only[iz,g5,if_true,g4,fz,K6 a x (d x g2),g6,g7,n0];cases qX x <;> rfl) (fun n i g1 g2=>by simp only[iz,g2,fI,if_false];rfl)
  unfold qW tV
  simp only[qP a _ h1,fz,lp]
  by_cases c:(p.Args.length:Int)≤5
  · have b:decide (5 < (p.Args.length:Int))=false:=decide_eq_false NR
    simp only[c,b,decide_true];cases gy p.Kind <;> simp
  · have b:decide (5 < (p.Args.length:Int))=true:=decide_eq_true NR
    simp only[c,b,decide_false];cases gy p.Kind <;> simp
def CX (c:f9):Prop:=xa c.L∧xa c.R
def sO (c:f9):Bool:=(decide (1≤c.Op) && decide (c.Op≤3)) && (u9 c.L && u9 c.R)
theorem Ly {N:Nat} (a:1099000000000≤N) (c:f9) (h:CX c):oR N c=some (sO c):=by
  unfold oR sO
  simp only[in1,xA a _ h.1,xA a _ h.2,fz,sf,Bool.and_assoc]
theorem Ma {N:Nat} (d:1099000000000≤N) (xs:List ByteArray) (v:ByteArray) (c:xs.length≤4294967296):∃ r,dP N xs v=some r∧decide (0≤r)=decide (v∈xs):=by
  unfold dP
  have:=yI (bG N xs v) xs c (fun x=>seq v x) (fun n i x a _ b hw=>by simp only[bG,b,if_true,a,fz,hw]) (fun n i b=>by simp only[bG,b,fI,if_false]) N 0 NR NR
  rw[hR,show ((0:Nat):Int)=0 from rfl] at this
  refine⟨_,this,?_⟩
  rw[Cg,sY,K4,decide_eq_true_eq]
  simp only[kZ,decide_eq_true_eq]
  constructor
  · rintro⟨x,a,rfl⟩;exact a
  · intro h;exact⟨v,h,rfl⟩
theorem Kd {N:Nat} (a:1099000000000≤N) (xs:List ByteArray) (v:ByteArray) (b:xs.length≤4294967296):cL N xs v=some (decide (v∈xs)):=by
  unfold cL
  obtain⟨r,h1,c⟩:=Ma a xs v b
  rw[h1,fz,c]
theorem Jv {N:Nat} (a:1099000000000≤N) (s:List ByteArray) (v:ByteArray) (b:s.length≤4294967295):o7 N s v=some (dR s v):=by
  unfold o7 dR
  rw[Kd a s v NR,fz]
  by_cases h:v∈s
  · simp[h]
  · simp only[h,decide_false,fI,if_false,bO (show s.length+[v].length≤4294967296 by simp;omega),fz]
theorem wa {N:Nat} (a:1099000000000≤N) (l:List cJ) (s:List ByteArray) (e:s.length+l.length≤4294967290):jX N s l=some ((df l).foldl dR s):=by
  unfold jX
  refine lp' a l NR (fJ N l) (fun t s=>some ((df t).foldl dR s)) (fun s t=>s.length+t.length≤4294967290) s e (fun n s i x t h1 b k f g j c d=>?_) (fun n s i h1 b c=>?_)
  · simp only[gh] at c
    simp only[fJ,g,if_true,f,fz,j,df,Jv a s x.S NR]
    by_cases h:x.K=1
    · simp only[h,decide_true,if_true,qs]
      exact d _ (by have:=vu s x.S;omega)
    · simp only[h,decide_false,fI,if_false]
      exact d _ NR
  · simp only[fJ,b,fI,if_false];rfl
theorem FO {N:Nat} (b:1099000000000≤N) (r:af) (h:r.Pats.length≤1048576) (j:jW r.Pats≤1048576):m6 N r=some ((d9 r.Pats).foldl dR []):=by
  unfold m6
  refine lp' b r.Pats NR (fK N r) (fun t s=>some ((d9 t).foldl dR s)) (fun s t=>s.length+jW t≤4294967290) [] (by simp;omega) (fun n s i x t h1 a k e f g c d=>?_) (fun n s i h1 a c=>?_)
  · have l:s.length+(x.Args.length+jW t)≤4294967290:=by simpa[jW] using c
    simp only[fK,f,if_true,e,fz,g,d9,wa b x.Args s NR]
    cases m:x.Not with
    | true=>simpa using d s NR
    | false=>
      have h1:=ji x.Args
      have a:=lT (df x.Args) s
      simpa[u0] using d _ (show ((df x.Args).foldl dR s).length+jW t≤4294967290 by omega)
  · simp only[fK,a,fI,if_false];rfl
theorem Eq {N:Nat} (d:1099000000000≤N) (r:af) (h:r.Pats.length≤1048576):jq N r=some (ak r.Pats:Int):=by
  unfold jq
  have:=lp' d r.Pats NR (ej N r) (fun t s=>some (s+(ak t:Int))) (fun s t=>0≤s∧s+t.length≤1048576) (0:Int) (by simp;omega) (fun n s i x t h1 a j e f g b c=>by
    simp only[gh] at b
    simp only[ej,f,if_true,e,fz,g,ak]
    cases k:x.Not with
    | true=>simpa using c s NR
    | false=>
      rw[wr (n:=s+1) NR NR]
      have:=c (s+1) NR
      simp only[hI,if_true,this,fI,if_false]
      congr 1;omega) (fun n s i h1 a b=>by simp only[ej,a,fI,if_false,ak];simp)
  simpa using this
def iq (c:Nat):Nat→List ay→Bool
  | _,[]=>true
  | i,p :: t=>tV p && ((p.Not == decide (c≤i)) && iq c (i+1) t)
def iK (l:List ay):Bool:=(decide (1≤l.length) && decide (l.length≤6)) && ((decide (1≤ak l) && decide (ak l≤3)) && iq (ak l) 0 l)
theorem Lo {N:Nat} (b:1099000000000≤N) (r:af) (d:r.Pats.length≤1048576) (hp:∀ p∈r.Pats,E7 p):pg N r=some (iK r.Pats):=by
  have c:=Eq b r d
  have lp:∀ (n i:Nat),i≤r.Pats.length→r.Pats.length - i < n→fx N r n i=some (iq (ak r.Pats) i (r.Pats.drop i)):=by
    intro n
    induction n with
    | zero=>intro i _ h;omega
    | succ n e=>
      intro i m o
      by_cases a:i < r.Pats.length
      · have c1:decide ((i:Int) < (r.Pats.length:Int))=true:=decide_eq_true NR
        rw[gI a]
        simp only[fx,c1,if_true,ah a,fz,Mn b _ (hp _ (hG a)),c,wr1 i NR,e (i+1) NR NR,iq]
        have f:decide ((ak r.Pats:Int)≤(i:Int))=decide (ak r.Pats≤i):=by rw[decide_eq_decide];omega
        rw[f]
        cases tV r.Pats[i] <;> cases r.Pats[i].Not <;> cases decide (ak r.Pats≤i) <;> rfl
      · have c1:decide ((i:Int) < (r.Pats.length:Int))=false:=decide_eq_false NR
        rw[hz NR]
        simp only[fx,c1,fI,if_false];rfl
  have g:=lp N 0 NR NR
  have h1:decide ((1:Int)≤(r.Pats.length:Int))=decide (1≤r.Pats.length):=by rw[decide_eq_decide];omega
  have j:decide ((r.Pats.length:Int)≤6)=decide (r.Pats.length≤6):=by rw[decide_eq_decide];omega
  have k:decide ((1:Int)≤(ak r.Pats:Int))=decide (1≤ak r.Pats):=by rw[decide_eq_decide];omega
  have l:decide ((ak r.Pats:Int)≤3)=decide (ak r.Pats≤3):=by rw[decide_eq_decide];omega
  unfold pg iK
  simp only[in1,fz,c,h1,j,k,l]
  rw[show fx N r N 0=_ from g,hR]
  cases (decide (1≤r.Pats.length) && decide (r.Pats.length≤6)) <;> cases (decide (1≤ak r.Pats) && decide (ak r.Pats≤3)) <;> rfl
def tv (vs:List ByteArray) (c:f9):Bool:=sO c && (kV vs c.L && kV vs c.R)
def q9 (vs:List ByteArray) (e:dY):Bool:=kV vs e.L && kV vs e.R
def um (vs:List ByteArray) (pos:Nat) (a:fd):Bool:=rU a && (!(decide (a.Kind=2) && decide ((pos:Int)≤a.N)) && a.Args.all (q9 vs))
def CL (r:af):Prop:=r.Name.size≤1048576∧(r.Pats.length≤1048576∧∀ p∈r.Pats,E7 p)∧(r.Conds.length≤1048576∧∀ c∈r.Conds,CX c)∧(r.Acts.length≤1048576∧∀ a∈r.Acts,Ex a)∧jW r.Pats≤1048576∧(r.Acts.map fun a=>a.Args.length).sum≤1048576
def iY (r:af):Bool:=gy r.Name && ((decide (-100≤r.Sal) && decide (r.Sal≤100)) && (iK r.Pats && ((r.Conds.all (tv (jv r)) && decide (r.Conds.length≤6)) && (r.Acts.all (um (jv r) (ak r.Pats)) && (decide (1≤r.Acts.length) && decide (r.Acts.length≤6))))))
def d7:List f9→List ByteArray
  | []=>[]
  | c :: t=>df [c.L,c.R]++d7 t
def ie:List dY→List ByteArray
  | []=>[]
  | e :: t=>df [e.L,e.R]++ie t
def dG:List fd→List ByteArray
  | []=>[]
  | a :: t=>ie a.Args++dG t
theorem tP:∀ (l:List f9),(d7 l).length≤2*l.length
  | []=>by simp[d7]
  | c :: t=>by have:=tP t;have:=ji [c.L,c.R];simp[d7] at *;omega
theorem tY:∀ (l:List dY),(ie l).length≤2*l.length
  | []=>by simp[ie]
  | c :: t=>by have:=tY t;have:=ji [c.L,c.R];simp[ie] at *;omega
def mz (l:List fd):Nat:=(l.map fun a=>a.Args.length).sum
theorem vz:∀ (l:List fd),(dG l).length≤2*mz l
  | []=>by simp[dG,mz]
  | a :: t=>by have:=vz t;have:=tY a.Args;simp[dG,mz] at *;omega
theorem M6 {N:Nat} (d:1099000000000≤N) (x:fd) (a:Nat) (K:List ByteArray→Int→Option (List ByteArray)) (l:List fd) (g:List ByteArray→Option (List ByteArray)) (s:List ByteArray) (p:s.length+2*x.Args.length≤4294967280) (q:x.Args.length≤1048576) (r:a≤1048576)
    (f:∀ b,b.length≤s.length+2*x.Args.length→K b ((a+1:Nat):Int)=g b):eZ N a K x N s 0=g ((ie x.Args).foldl dR s):=by
  refine lp' d x.Args NR (eZ N a K x) (fun t s=>g ((ie t).foldl dR s)) (fun u t=>u.length+2*t.length≤s.length+2*x.Args.length) s NR (fun n u i y t h1 e v h j k c m=>?_) (fun n u i h1 e c=>?_)
  · simp only[gh] at c
    have w:=lT (df [y.L,y.R]) u
    have o:=ji [y.L,y.R]
    simp only[gh,gk] at o
    simp only[eZ,j,if_true,h,fz,wa d [y.L,y.R] u (by simp;omega),k,ie,u0]
    exact m _ NR
  · simp only[eZ,e,fI,if_false,wr1 a NR,ie]
    exact f u (by simpa using c)
theorem LI {N:Nat} (d:1099000000000≤N) (r:af) (o:r.Conds.length≤1048576) (j:r.Acts.length≤1048576) (l:∀ a∈r.Acts,a.Args.length≤1048576) (he:mz r.Acts≤1048576):mI N r=some ((d7 r.Conds++dG r.Acts).foldl dR []):=by
  unfold mI
  have a2:∀ s:List ByteArray,s.length≤4194304→dJ N r N s 0=some ((dG r.Acts).foldl dR s):=fun s p=>
    lp' d r.Acts NR (dJ N r) (fun t s=>some ((dG t).foldl dR s)) (fun s t=>s.length+2*mz t≤16777216) s NR (fun n u i x t h1 b m e f k c g=>by
      have q:u.length+2*(x.Args.length+mz t)≤16777216:=by simpa[mz] using c
      simp only[dJ,f,if_true,e,fz,dG,u0]
      exact M6 d x i (dJ N r n) r.Acts (fun h=>some ((dG t).foldl dR h)) u NR (l x b) NR (fun h v=>g h NR)) (fun n u i h1 b c=>by simp only[dJ,b,fI,if_false];rfl)
  refine lp' d r.Conds NR (gr N r) (fun t s=>some ((d7 t++dG r.Acts).foldl dR s)) (fun s t=>s.length+2*t.length≤4194304) [] (by simp;omega) (fun n u i x t h1 b m e f k c g=>?_) (fun n u i h1 b c=>?_)
  · simp only[gh] at c
    have w:=lT (df [x.L,x.R]) u
    have j:=ji [x.L,x.R]
    simp only[gh,gk] at j
    simp only[gr,f,if_true,e,fz,wa d [x.L,x.R] u (by simp;omega),k,d7,gf]
    rw[u0]
    exact g _ NR
  · simp only[gr,b,fI,if_false,d7,ha]
    exact a2 u (by simpa using c)
theorem A0 (vs:List ByteArray) (a b:cJ):(kV vs a && kV vs b)=true↔∀ x∈df [a,b],x∈vs:=by
  unfold kV
  simp only[nT,hE,List.not_mem_nil,or_false,gm,Bool.or_eq_true,Bool.not_eq_true',decide_eq_false_iff_not,decide_eq_true_eq]
  constructor
  · rintro⟨h1,e⟩ x ⟨c,rfl | rfl,d,rfl⟩
    · exact h1.resolve_left (fun h=>h d)
    · exact e.resolve_left (fun h=>h d)
  · intro h
    refine⟨?_,?_⟩
    · by_cases h1:a.K=1
      · exact .inr (h _ ⟨a,.inl rfl,h1,rfl⟩)
      · exact .inl h1
    · by_cases h1:b.K=1
      · exact .inr (h _ ⟨b,.inr rfl,h1,rfl⟩)
      · exact .inl h1
theorem tK (vs:List ByteArray):∀ (l:List f9),(∀ x∈d7 l,x∈vs)↔∀ c∈l,(kV vs c.L && kV vs c.R)=true
  | []=>by simp[d7]
  | c :: t=>by
    simp only[d7,gb,or_imp,forall_and,tK vs t,hE,forall_eq,A0]
theorem tW (vs:List ByteArray):∀ (l:List dY),(∀ x∈ie l,x∈vs)↔∀ c∈l,q9 vs c=true
  | []=>by simp[ie]
  | c :: t=>by
    simp only[ie,gb,or_imp,forall_and,tW vs t,hE,forall_eq,q9,A0]
theorem vw (vs:List ByteArray):∀ (l:List fd),(∀ x∈dG l,x∈vs)↔∀ a∈l,a.Args.all (q9 vs)=true
  | []=>by simp[dG]
  | c :: t=>by
    simp only[dG,gb,or_imp,forall_and,vw vs t,hE,forall_eq,tW,p4]
theorem KX {N:Nat} (j:1099000000000≤N) (r:af) (h:CL r):ph N r=some (iY r):=by
  obtain⟨h1,⟨l,p⟩,⟨q,s⟩,⟨u,o⟩,h5,h6⟩:=h
  have D:=Fv h5
  have v:m6 N r=some (jv r):=FO j r l h5
  have w:=LI j r q u (fun a y=>(o a y).2.2.1) h6
  have ul:((d7 r.Conds++dG r.Acts).foldl dR []).length≤4294967296:=by
    have k:=lT (d7 r.Conds++dG r.Acts) []
    have a2:=tP r.Conds
    have a3:=vz r.Acts
    have a4:mz r.Acts≤1048576:=h6
    simp only[gi,gk] at k;omega
  have z:fy N (jv r) ((d7 r.Conds++dG r.Acts).foldl dR []) N 0=some (((d7 r.Conds++dG r.Acts).foldl dR []).all fun x=>decide (x∈jv r)):=
    lp0 j _ ul (fy N (jv r) _) (fun t=>some (t.all fun x=>decide (x∈jv r))) (fun n i x t g1 g2 g3 g4 g5 g6 g7=>by
      simp only[fy,g5,if_true,g4,fz,Kd j _ x (show (jv r).length≤4294967296 by omega),g6,g7,n0]
      cases decide (x∈jv r) <;> rfl) (fun n i g1 g2=>by simp only[fy,g2,fI,if_false];rfl)
  have A:fo N r N 0=some ((r.Acts.all fun a=>rU a && !(decide (a.Kind=2) && decide ((ak r.Pats:Int)≤a.N))) && ((d7 r.Conds++dG r.Acts).foldl dR []).all fun x=>decide (x∈jv r)):=
    lp0 j r.Acts NR (fo N r) (fun t=>some ((t.all fun a=>rU a && !(decide (a.Kind=2) && decide ((ak r.Pats:Int)≤a.N))) && ((d7 r.Conds++dG r.Acts).foldl dR []).all fun x=>decide (x∈jv r))) (fun n i x t g1 g2 g3 g4 g5 g6 g7=>by
      simp only[fo,g5,if_true,g4,fz,Mi j x (o x g2),Eq j r l,g6,g7,n0]
      cases rU x <;> cases decide (x.Kind=2) <;> cases decide ((ak r.Pats:Int)≤x.N) <;> simp) (fun n i g1 g2=>by
      simp only[fo,g2,fI,if_false,v,w,fz,z];rfl)
  have B:fB N r N 0=some (r.Conds.all sO && ((r.Acts.all fun a=>rU a && !(decide (a.Kind=2) && decide ((ak r.Pats:Int)≤a.N))) && ((d7 r.Conds++dG r.Acts).foldl dR []).all fun x=>decide (x∈jv r))):=
    lp0 j r.Conds NR (fB N r) (fun t=>some (t.all sO && ((r.Acts.all fun a=>rU a && !(decide (a.Kind=2) && decide ((ak r.Pats:Int)≤a.N))) && ((d7 r.Conds++dG r.Acts).foldl dR []).all fun x=>decide (x∈jv r)))) (fun n i x t g1 g2 g3 g4 g5 g6 g7=>by
      simp only[fB,g5,if_true,g4,fz,Ly j x (s x g2),g6,g7,n0]
      cases sO x <;> simp) (fun n i g1 g2=>by
      simp only[fB,g2,fI,if_false,A];rfl)
  have d1:decide ((6:Int) < (r.Conds.length:Int)) = !decide (r.Conds.length≤6):=by rw[← decide_not,decide_eq_decide];omega
  have d2:decide ((1:Int)≤(r.Acts.length:Int))=decide (1≤r.Acts.length):=by rw[decide_eq_decide];omega
  have d3:decide ((r.Acts.length:Int)≤6)=decide (r.Acts.length≤6):=by rw[decide_eq_decide];omega
  have key:(r.Conds.all sO && ((r.Acts.all fun a=>rU a && !(decide (a.Kind=2) && decide ((ak r.Pats:Int)≤a.N))) && ((d7 r.Conds++dG r.Acts).foldl dR []).all fun x=>decide (x∈jv r)))=(r.Conds.all (tv (jv r)) && r.Acts.all (um (jv r) (ak r.Pats))):=by
    rw[sY]
    have C:(((d7 r.Conds++dG r.Acts).foldl dR []).all fun x=>decide (x∈jv r))=true↔(∀ c∈r.Conds,(kV (jv r) c.L && kV (jv r) c.R)=true)∧∀ a∈r.Acts,a.Args.all (q9 (jv r))=true:=by
      rw[← tK,← vw]
      simp only[p4,decide_eq_true_eq,qN,List.not_mem_nil,false_or,gb,or_imp,forall_and]
    rw[gm,gm,gm,C]
    simp only[p4,tv,um,gm,forall_and,and_imp]
    constructor
    · rintro⟨k,⟨a2,a3⟩,⟨a4,a5⟩,m⟩;exact⟨⟨k,a4,a5⟩,a2,a3,m⟩
    · rintro⟨⟨k,a4,a5⟩,a2,a3,m⟩;exact⟨k,⟨a2,a3⟩,⟨a4,a5⟩,m⟩
  unfold ph iY
  simp only[qP j _ h1,fz,in1,Lo j r l p,d1,d2,d3,B,key]
  generalize gy r.Name=a;generalize iK r.Pats=b;generalize (decide (-100≤r.Sal) && decide (r.Sal≤100))=c;generalize decide (r.Conds.length≤6)=d;generalize (decide (1≤r.Acts.length) && decide (r.Acts.length≤6))=e
  generalize r.Conds.all (tv (jv r))=f;generalize r.Acts.all (um (jv r) (ak r.Pats))=g
  cases a <;> cases b <;> cases c <;> cases d <;> cases e <;> cases f <;> cases g <;> rfl
theorem Bq {v:bN} (h:vp v):tR v=true:=by
  rcases h with ⟨n,h1,c,rfl⟩ | ⟨s,a,rfl⟩
  · have b:decide (-1000000000≤n)=true:=decide_eq_true NR
    have a2:decide (n≤1000000000)=true:=decide_eq_true NR
    unfold tR
    simp only[if_true,b,a2,kf,Bool.and_self]
  · exact (show ∀ s∈([⟨#[97]⟩,⟨#[98]⟩]:List ByteArray),tR ⟨2,0,s⟩=true by decide) s a
def xyz:List ByteArray:=[⟨#[88]⟩,⟨#[89]⟩,⟨#[90]⟩,⟨#[88]⟩]
theorem zW:∀ s∈xyz,qX ⟨1,s,⟨0,0,⟨#[]⟩⟩⟩=true:=fun s a=>by
  unfold qX
  simp only[if_true,iw,decide_true,ti]
  exact (show ∀ s∈xyz,DQ s=true by decide) s a
theorem FL:qX ⟨3,⟨#[]⟩,⟨0,0,⟨#[]⟩⟩⟩=true:=by
  unfold qX
  simp[kf,iw]
theorem zR {v:bN} (h:vp v):qX ⟨2,⟨#[]⟩,v⟩=true:=by
  unfold qX
  simp only[show ¬ (2:Int)=1 by omega,if_false,if_true,Bq h,kf,Bool.and_self]
theorem H5 {a:cJ} (h:BE a):qX a=true:=by
  rcases h with rfl | ⟨v,b,rfl⟩ | ⟨s,c,rfl⟩
  · exact FL
  · exact zR b
  · exact zW s c
theorem Ce {n:Bool} {p:ay} (h:qk n p):tV p=true:=by
  obtain⟨_,h1,e,b⟩:=h
  have c:=(show ∀ s∈([⟨#[111,114,100,101,114]⟩,⟨#[112,97,105,100]⟩,⟨#[105,116,101,109]⟩,⟨#[111,114,100,101,114]⟩]:List ByteArray),gy s=true by decide) _ h1
  unfold tV
  rw[c,decide_eq_true NR,p4.2 fun a d=>H5 (b a d)];rfl
theorem rN:∀ (u v:List ay),ak (u++v)=ak u+ak v
  | [],v=>by simp[ak]
  | p :: t,v=>by
    have a:ak (p :: (t++v))=if p.Not then ak (t++v) else ak (t++v)+1:=rfl
    have b:ak (p :: t)=if p.Not then ak t else ak t+1:=rfl
    rw[hK,a,b,rN t v];split <;> omega
theorem tl:∀ (v:List ay),(∀ p∈v,qk true p)→ak v=0
  | [],_=>rfl
  | p :: t,h=>by
    unfold ak
    rw[(h p NS).1,if_pos rfl]
    exact tl t fun q a=>h q (by simp[a])
theorem rp:∀ (v:List ay),(∀ p∈v,qk false p)→ak v=v.length
  | [],_=>rfl
  | p :: t,h=>by
    unfold ak
    rw[(h p NS).1,rp t fun q a=>h q (by simp[a])];simp
theorem wO (c:Nat):∀ (v:List ay) (i:Nat),c≤i→(∀ p∈v,qk true p)→iq c i v=true
  | [],i,_,_=>rfl
  | p :: t,i,a,h=>by
    unfold iq
    rw[Ce (h p NS),(h p NS).1,decide_eq_true a,wO c t (i+1) NR fun q b=>h q (by simp[b])];rfl
theorem vC (c:Nat) (w:List ay) (hw:∀ p∈w,qk true p):∀ (v:List ay) (i:Nat),i+v.length=c→(∀ p∈v,qk false p)→iq c i (v++w)=true
  | [],i,a,_=>wO c w i (by simp at a;omega) hw
  | p :: t,i,a,h=>by
    simp only[gh] at a
    rw[hK]
    unfold iq
    rw[Ce (h p NS),(h p NS).1,decide_eq_false NR,vC c w hw t (i+1) NR fun q b=>h q (by simp[b])];rfl
theorem vA {l:List ay} (h:kY l):1≤ak l∧ak l≤3:=by
  obtain⟨ps,ns,rfl,h1,c,d,a,b⟩:=h
  rw[rN,tl ns b,rp ps a];omega
theorem Fx {l:List ay} (h:kY l):iK l=true:=by
  have a:=vA h
  obtain⟨ps,ns,rfl,h1,d,f,b,c⟩:=h
  have e:ak (ps++ns)=ps.length:=by rw[rN,tl ns c,rp ps b];omega
  unfold iK
  rw[e] at a ⊢
  rw[vC _ ns c ps 0 NR b,decide_eq_true a.1,decide_eq_true a.2,gi,decide_eq_true (show 1≤ps.length+ns.length by omega),decide_eq_true (show ps.length+ns.length≤6 by omega)];rfl
theorem IF {l:List ay} (h:kY l):∀ s∈bnd l,s∈xyz:=by
  intro s b
  have b:=(qN.1 b).resolve_left NS
  have:∀ (l:List ay),(∀ p∈l,∃ n,qk n p)→s∈d9 l→s∈xyz:=by
    intro l
    induction l with
    | nil=>intro _ h;simp[d9] at h
    | cons p t d=>
      intro hp hm
      unfold d9 at hm
      split at hm
      · exact d (fun q c=>hp q (by simp[c])) hm
      · rcases gb.1 hm with hm | hm
        · obtain⟨a,e,hk,rfl⟩:=nT.1 hm
          obtain⟨n,f⟩:=hp p NS
          rcases f.2.2.2 a e with rfl | ⟨v,i,rfl⟩ | ⟨j,g,rfl⟩
          · simp at hk
          · simp at hk
          · exact g
        · exact d (fun q c=>hp q (by simp[c])) hm
  exact this l (oP h) b
theorem to {l:List ay} (h:kY l) {a:cJ} (c:ij (bnd l) a):u9 a=true∧kV (bnd l) a=true:=by
  rcases c with ⟨v,d,rfl⟩ | ⟨s,b,rfl⟩
  · refine⟨?_,by simp[kV]⟩
    unfold u9
    rw[zR d];rfl
  · refine⟨?_,by simp[kV,b]⟩
    unfold u9
    rw[zW s (IF h s b)];rfl
theorem GN:qG DK ⟨0,⟨#[]⟩,⟨0,0,⟨#[]⟩⟩⟩=true:=by rw[BV];exact decide_eq_true rfl
theorem C1 (vs:List ByteArray):kV vs DK=true:=by simp[kV,DK]
theorem E3 {l:List ay} (h:kY l) {e:dY} (he:vK (ij (bnd l)) e):pw e=true∧q9 (bnd l) e=true:=by
  obtain⟨h1,c⟩:=he
  obtain⟨g1,d⟩:=to h h1
  unfold pw q9
  rw[d,g1]
  rcases c with ⟨a,b⟩ | ⟨a,b⟩
  · rw[a,b,GN,C1]
    exact⟨by simp[kf],rfl⟩
  · obtain⟨g2,f⟩:=to h b
    rw[g2,f]
    refine⟨?_,rfl⟩
    have:=(show ∀ s∈([⟨#[43]⟩,⟨#[45]⟩]:List ByteArray),seq s ⟨#[]⟩=false∧(seq s ⟨#[43]⟩ || seq s ⟨#[45]⟩)=true by simp only[kZ];decide) _ a
    rw[this.1,this.2];rfl
theorem LE {l:List ay} (h:kY l) {a:fd} (m:vM (ij (bnd l)) (ak l) a):rU a=true∧um (bnd l) (ak l) a=true:=by
  obtain⟨h1,g,i⟩:=m
  have t:=vA h
  have o:a.Args.all pw=true:=p4.2 fun e he=>(E3 h (g e he)).1
  have p:a.Args.all (q9 (bnd l))=true:=p4.2 fun e he=>(E3 h (g e he)).2
  have q:decide ((a.Args.length:Int)≤5)=true:=decide_eq_true NR
  have ok:rU a=true:=by
    unfold rU
    simp only[o,q]
    rcases i with ⟨k,n,as,b,d,u⟩ | ⟨k,n,as,c,u⟩ | ⟨k,nm,b,u⟩
    · have d:=d NR
      rw[k,n,as,u,decide_eq_true b,decide_eq_true (show a.N≤7 by omega)]
      simp[kf]
    · rw[n,as,u,c]
      rcases k with k | k <;> rw[k] <;> simp[kf]
    · have r:=(show ∀ s∈([⟨#[111,114,100,101,114]⟩,⟨#[112,97,105,100]⟩,⟨#[105,116,101,109]⟩,⟨#[115,104,105,112]⟩,⟨#[99,104,97,114,103,101]⟩]:List ByteArray),gy s=true by decide) _ nm
      rw[r]
      rcases k with k | k | k
      · have c:a.N=0:=b.resolve_right (fun h=>by have:=h.1;omega)
        have f:a.Undo=⟨#[]⟩:=u.resolve_right (fun h=>by have:=h.1;omega)
        rw[k,c,f];simp[kf]
      · have c:a.N=0:=b.resolve_right (fun h=>by have:=h.1;omega)
        rw[k,c]
        rcases u with u | ⟨_,u⟩
        · rw[u];simp[kf]
        · have:=(show ∀ s∈([⟨#[114,101,102,117,110,100]⟩,⟨#[99,97,110,99,101,108]⟩]:List ByteArray),gy s=true by decide) _ u
          rw[this];simp
      · have f:a.Undo=⟨#[]⟩:=u.resolve_right (fun h=>by have:=h.1;omega)
        have j:0≤a.N∧a.N≤100000:=by
          rcases b with b | ⟨_,b⟩
          · omega
          · simp at b;omega
        rw[k,f,decide_eq_true j.1,decide_eq_true j.2];simp[kf]
  refine⟨ok,?_⟩
  unfold um
  rw[ok,p]
  have:(decide (a.Kind=2) && decide ((ak l:Int)≤a.N))=false:=by
    rcases i with ⟨k,n,as,b,d,u⟩ | ⟨k,n,as,c,u⟩ | ⟨k,nm,b,u⟩
    · have d:=d NR
      rw[decide_eq_false (show ¬ (ak l:Int)≤a.N by omega)];simp
    · rw[decide_eq_false NR];rfl
    · rw[decide_eq_false NR];rfl
  rw[this];rfl
theorem It {nm:ByteArray} (f:gy nm=true) {r:af} (h:qD nm r):iY r=true:=by
  obtain⟨h1,h2,h3,⟨n,g⟩,h5,h6,h7⟩:=h
  have i:jv r=bnd r.Pats:=rfl
  have e : -100≤r.Sal∧r.Sal≤100:=by simp at h2;omega
  have b:r.Conds.all (tv (bnd r.Pats))=true:=p4.2 fun c b=>by
    obtain⟨c1,c2,j,k⟩:=g c b
    obtain⟨g1,l⟩:=to h3 j
    obtain⟨g2,m⟩:=to h3 k
    unfold tv sO
    rw[g1,g2,l,m,decide_eq_true c1,decide_eq_true c2];rfl
  have d:r.Acts.all (um (bnd r.Pats) (ak r.Pats))=true:=p4.2 fun a d=>(LE h3 (h7 a d)).2
  unfold iY
  rw[h1,f,i,Fx h3,b,d,decide_eq_true e.1,decide_eq_true e.2,decide_eq_true (show r.Conds.length≤6 by omega),decide_eq_true h5,decide_eq_true (show r.Acts.length≤6 by omega)];rfl
def Kr (d:bv):Prop:=d.Name.size≤16∧d.Rules.length≤16∧∀ r∈d.Rules,Dy r
def mV:List ByteArray:=[⟨#[114,49]⟩,⟨#[114,50]⟩,⟨#[114,51]⟩,⟨#[114,52]⟩]
def C7 (d:bv):Prop:=d.Name∈([⟨#[102,108,111,119]⟩,⟨#[115,104,105,112]⟩,⟨#[120]⟩]:List ByteArray)∧1≤d.Rules.length∧d.Rules.length≤4∧∀ (i:Nat) (r:af),d.Rules[i]?=some r→∃ nm,mV[i]?=some nm∧qD nm r
theorem FY:∀ s∈mV,s.size≤16:=by decide
theorem Cr {d:bv} (h:C7 d):Kr d:=by
  obtain⟨h1,j,k,a⟩:=h
  refine⟨(show ∀ s∈([⟨#[102,108,111,119]⟩,⟨#[115,104,105,112]⟩,⟨#[120]⟩]:List ByteArray),s.size≤16 by decide) _ h1,NR,fun r b=>?_⟩
  obtain⟨i,c,e⟩:=List.getElem_of_mem b
  obtain⟨nm,f,g⟩:=a i r (by rw[gj c,e])
  exact FF (FY nm (jf f)) g
theorem MB {N:Nat} (t:1099000000000≤N) {b:List Int} (l:b.length≤1048576) {c:ab} (g:GC b c):Dr b C7 (nV N c):=by
  unfold nV
  refine (vv l g _ (by decide)).bind fun nm d gd u=>?_
  have lp:∀ (n i:Nat) (s:List af) (x h:Int),i≤4→4 - i < n→s.length=i→(∀ (j:Nat) (r:af),s[j]?=some r→∃ nm,mV[j]?=some nm∧qD nm r)→GC b ⟨c.b,x,h⟩→Dr b C7 (iT N c (nm,d) n s (i:Int) x h):=by
    intro n
    induction n with
    | zero=>intro i _ _ _ _ h;omega
    | succ n w=>
      intro i s x h F G H o k
      simp only[iT]
      refine (kM l k 4 NR).bind fun v e ge q=>?_
      dsimp only
      rw[wr (show -9223372036854775808≤1+v by omega) NR]
      by_cases h1:(i:Int) < 1+v∧i < 4
      · have m:decide ((i:Int) < 1+v)=true:=decide_eq_true h1.1
        have y:decide ((i:Int) < 4)=true:=decide_eq_true NR
        have z:idx mV (i:Int)=some (mV[i]'(by unfold mV;simp;omega)):=ah (by unfold mV;simp;omega)
        simp only[m,y,if_true,fz]
        refine .bindO z ((Ll t l (ge.at (c:=⟨c.b,x,h⟩) k.1) _).bind fun r f A qr=>.bindO (sg NR NS) ?_)
        rw[wr1 i NR]
        refine w (i+1) _ _ _ NR NR (by simp;omega) ?_ (A.at (c:=⟨c.b,x,h⟩) k.1)
        intro j B a
        by_cases C:j < s.length
        · rw[oj C] at a;exact o j B a
        · rw[List.getElem?_append_right NR] at a
          have:j=i:=by
            have:=(gx.1 a).1
            simp at this;omega
          subst this
          have D:j - s.length=0:=by omega
          rw[D] at a
          simp at a
          subst a
          exact⟨_,gj _,qr⟩
      · have m:(if decide ((i:Int) < 1+v)=true then some (decide ((i:Int) < 4)) else some false)=some false:=by
          by_cases p:(i:Int) < 1+v
          · have E : ¬ (i:Int) < 4:=by omega
            simp[p,E]
          · simp[p]
        rw[m,fz]
        simp only[fI,if_false]
        exact .ret (ge.at (c:=⟨c.b,x,h⟩) k.1) ⟨u,by dsimp only;omega,by dsimp only;omega,o⟩
  exact lp N 0 [] _ _ NR NR rfl NS (gd.at g.1)
def vW (l:List af) (v:ByteArray):Int:=match l.findIdx? (fun r=>seq r.Name v) with | some j=>(j:Int) | none=>-1
theorem NB {N:Nat} (e:1099000000000≤N) (d:bv) (v:ByteArray) (f:d.Rules.length≤1048576):po N d v=some (vW d.Rules v):=by
  unfold po dU vW
  have b:=yI (bl N d.Rules (fun a0=>jC N a0 v)) d.Rules NR (fun x=>seq x.Name v) (fun n i x c _ a hw=>by simp only[bl,jC,a,if_true,c,fz,hw]) (fun n i a=>by simp only[bl,a,fI,if_false]) N 0 NR NR
  rw[show ((0:Nat):Int)=0 from rfl,hR] at b
  rw[b]
  cases d.Rules.findIdx? (fun r=>seq r.Name v) <;> simp
def lZ (all:List af):Nat→List af→Bool
  | _,[]=>true
  | i,r :: t=>iY r && (decide (vW all r.Name=(i:Int)) && lZ all (i+1) t)
def iP (d:bv):Bool:=gy d.Name && ((decide (1≤d.Rules.length) && decide (d.Rules.length≤12)) && lZ d.Rules 0 d.Rules)
def rb (d:bv):Prop:=d.Name.size≤1048576∧d.Rules.length≤1048576∧∀ r∈d.Rules,CL r
theorem I1 {N:Nat} (a:1099000000000≤N) (d:bv) (h:rb d):mX N d=some (iP d):=by
  obtain⟨h1,c,e⟩:=h
  have lp:∀ (n i:Nat),i≤d.Rules.length→d.Rules.length - i < n→gF N d n i=some (lZ d.Rules i (d.Rules.drop i)):=by
    intro n
    induction n with
    | zero=>intro i _ h;omega
    | succ n f=>
      intro i j k
      by_cases b:i < d.Rules.length
      · have c1:decide ((i:Int) < (d.Rules.length:Int))=true:=decide_eq_true NR
        rw[gI b]
        simp only[gF,c1,if_true,ah b,fz,KX a _ (e _ (hG b)),NB a d _ c,wr1 i NR,f (i+1) NR NR,lZ]
        cases iY d.Rules[i] <;> cases decide (vW d.Rules d.Rules[i].Name=(i:Int)) <;> simp
      · have c1:decide ((i:Int) < (d.Rules.length:Int))=false:=decide_eq_false NR
        rw[hz NR]
        simp only[gF,c1,fI,if_false];rfl
  have g:=lp N 0 NR NR
  have d1:decide ((1:Int)≤(d.Rules.length:Int))=decide (1≤d.Rules.length):=by rw[decide_eq_decide];omega
  have d2:decide ((d.Rules.length:Int)≤12)=decide (d.Rules.length≤12):=by rw[decide_eq_decide];omega
  unfold mX iP
  simp only[qP a _ h1,fz,in1,d1,d2]
  rw[show gF N d N 0=_ from g,hR]
  cases gy d.Name <;> cases (decide (1≤d.Rules.length) && decide (d.Rules.length≤12)) <;> rfl
theorem ng {d:bv} (h:iP d=true):∀ r∈d.Rules,iY r=true:=by
  unfold iP at h
  simp only[gm] at h
  have:∀ (l:List af) (i:Nat),lZ d.Rules i l=true→∀ r∈l,iY r=true:=by
    intro l
    induction l with
    | nil=>intro i _ r a;cases a
    | cons x t c=>
      intro i b r a
      unfold lZ at b
      simp only[gm] at b
      rcases hE.1 a with rfl | a
      · exact b.1
      · exact c _ b.2.2 r a
  exact this _ _ h.2.2
theorem Fq:∀ s∈mV,gy s=true:=by decide
theorem Dl:∀ i,i < 4→∀ j,j < 4→i≠j→(mV[i]?.getD ⟨#[]⟩).data.toList≠(mV[j]?.getD ⟨#[]⟩).data.toList:=by decide
theorem Gf (i:Nat) (a:i < 4) (j:Nat) (b:j < 4) (h:i≠j):seq (mV[i]?.getD ⟨#[]⟩) (mV[j]?.getD ⟨#[]⟩)=false:=by
  have:=Dl i a j b h
  rw[kZ]
  exact decide_eq_false fun e=>this (by rw[e])
theorem BL {d:bv} (h:C7 d):iP d=true:=by
  obtain⟨h1,m,x,n⟩:=h
  have o:gy d.Name=true:=(show ∀ s∈([⟨#[102,108,111,119]⟩,⟨#[115,104,105,112]⟩,⟨#[120]⟩]:List ByteArray),gy s=true by decide) _ h1
  have p:∀ s:ByteArray,seq s s=true:=fun s=>kf s
  have nm:∀ (i:Nat) (a:i < d.Rules.length),d.Rules[i].Name=mV[i]?.getD ⟨#[]⟩∧iY d.Rules[i]=true:=fun i a=>by
    obtain⟨nm,c,f⟩:=n i _ (gj a)
    exact⟨by rw[c,f.1];rfl,It (Fq nm (jf c)) f⟩
  have at_:∀ (i:Nat) (a:i < d.Rules.length),vW d.Rules d.Rules[i].Name=(i:Int):=fun i a=>by
    have:d.Rules.findIdx? (fun r=>seq r.Name d.Rules[i].Name)=some i:=by
      rw[K3]
      refine⟨a,p _,fun j y=>?_⟩
      have q:j < d.Rules.length:=by omega
      rw[(nm j q).1,(nm i a).1,Gf j NR i NR NR]
      simp
    unfold vW
    rw[this]
  have lp:∀ (t:List af) (i:Nat),i+t.length=d.Rules.length→(∀ k,(hk:k < t.length)→d.Rules[i+k]?=some t[k])→lZ d.Rules i t=true:=by
    intro t
    induction t with
    | nil=>intro i _ _;rfl
    | cons r t u=>
      intro i v hk
      simp only[gh] at v
      have a:i < d.Rules.length:=by omega
      have e:d.Rules[i]=r:=by
        have:=hk 0 NS
        rw[k0,gj a] at this
        simpa using this
      have b:=u (i+1) NR (fun k w=>by have:=hk (k+1) (by simpa using w);rw[show i+1+k=i+(k+1) by omega,this];rfl)
      have g:=at_ i a
      have l:=(nm i a).2
      rw[e] at g l
      unfold lZ
      rw[l,b,decide_eq_true g];rfl
  have b:=lp d.Rules 0 NR (fun k hk=>by rw[ho];exact gj hk)
  unfold iP
  rw[o,decide_eq_true m,decide_eq_true (show d.Rules.length≤12 by omega),b];rfl
def Dw:List ByteArray:=[⟨#[111,114,100,101,114]⟩,⟨#[112,97,105,100]⟩,⟨#[105,116,101,109]⟩,⟨#[111,114,100,101,114]⟩]
def qF (f:aI):Prop:=f.Kind∈Dw∧f.Fields.length≤5∧∀ v∈f.Fields,vp v
theorem CI {N:Nat} (z:1099000000000≤N) {b:List Int} (l:b.length≤1048576) {c:ab} (g:GC b c):Dr b qF (jU N c):=by
  unfold jU
  refine (vv l g _ (by decide)).bind fun k d gd hk=>?_
  have lp:∀ (m:Nat),m≤5→∀ (n i:Nat) (s:List bN) (x h:Int),i≤m→m - i < n→s.length=i→(∀ a∈s,vp a)→GC b ⟨c.b,x,h⟩→Dr b qF (jy N c (k,d) (m:Int) n s (i:Int) x h):=by
    intro m hm n
    induction n with
    | zero=>intro i _ _ _ _ h;omega
    | succ n u=>
      intro i s x h A B C p o
      simp only[jy]
      refine .ite (fun r=>?_) (fun D=>.ret o ⟨hk,by dsimp only;omega,p⟩)
      have r:=of_decide_eq_true r
      refine (Bg l o).bind fun a e ge q=>.bindO (sg NR NS) ?_
      rw[wr1 i NR]
      exact u (i+1) _ _ _ NR NR (by simp;omega) (nJ p q) (ge.at (c:=⟨c.b,x,h⟩) o.1)
  have t:∀ (m:Nat),m≤5→Dr b qF (iI N c (k,d) (m:Int)):=by
    intro m hm
    unfold iI lg
    refine (rM l (gd.at g.1) 12).bind fun v e ge _=>.ite (fun _=>?_) (fun _=>?_)
    · refine (kM l (ge.at g.1) 6 NR).bind fun w f y hw=>?_
      obtain⟨j,rfl⟩:∃ j:Nat,w=(j:Int):=⟨w.toNat,NR⟩
      exact lp j NR N 0 [] _ _ NR NR rfl NS (y.at g.1)
    · exact lp m hm N 0 [] _ _ NR NR rfl NS (ge.at g.1)
  exact .ite (fun _=>t 2 NR) (fun _=>t 1 NR)
theorem HM {N:Nat} (d:1099000000000≤N) (x y:List bN) (f:x.length≤4294967296):j0 N x y=some (decide (x=y)):=by
  unfold j0
  by_cases c:x.length=y.length
  · rw[if_neg (by simp;omega)]
    refine (qn (eS N x y) x y c NR (fun a b=>some (decide (a=b))) (fun a _ b _=>rfl) (fun k i=>by simp only[eS,iw,fz]) N 0 NR NR).trans ?_
    simp
  · rw[if_pos (by simp;omega)]
    have : ¬ x=y:=fun e=>c (by rw[e])
    simp[this]
theorem Jc {N:Nat} (e:1099000000000≤N) (x y:aI) (f:x.Fields.length≤4294967296):mB N x y=some (decide (x=y)):=by
  unfold mB
  simp only[HM e _ _ f,fz,sf,kZ]
  obtain⟨a,b⟩:=x;obtain⟨c,d⟩:=y
  simp only[aI.mk.injEq,rr]
def sS (xs:List ag) (f:aI):Int:=match xs.find? (fun x=>decide (x.F=f)) with | some x=>x.Id | none=>0
theorem zP (x:ag) (xs:List ag) (f:aI):sS (x :: xs) f=if x.F=f then x.Id else sS xs f:=by
  unfold sS
  rw[L6]
  by_cases h:x.F=f <;> simp[h]
theorem Dk {N:Nat} (b:1099000000000≤N) (s:ac) (f:aI) (k:s.Items.length≤1048576) (c:∀ x∈s.Items,x.F.Fields.length≤1048576):qL N s f=some (sS s.Items f):=by
  unfold qL
  refine lp0 b s.Items NR (jd N s f) (fun t=>some (sS t f)) (fun n i x t h1 a l d e g j=>?_) (fun n i h1 a=>?_)
  · simp only[jd,e,if_true,d,fz,Jc b x.F f (by have:=c x a;omega),g,j,zP]
    by_cases h:x.F=f <;> simp[h]
  · simp only[jd,a,fI,if_false];rfl
def kQ (nx:Int) (l:List ag):Prop:=1≤nx∧(l.length:Int) < nx∧(∀ x∈l,1≤x.Id∧x.Id < nx∧qF x.F)∧l.Pairwise fun a b=>a.Id < b.Id∧a.F≠b.F
def AG (s:ac):Prop:=s.Next≤9∧kQ s.Next s.Items
theorem wF {nx:Int} {l:List ag} (h:kQ nx l):∀ x∈l,x.F.Fields.length≤5:=fun x a=>(h.2.2.1 x a).2.2.2.1
theorem He {N:Nat} (d:1099000000000≤N) (s:ac) (v:Int) (e:s.Items.length≤1048576):∃ q,mR N s v=some (q,⟨s.Items.filter fun x=>!decide (x.Id=v),s.Next⟩):=by
  unfold mR
  have:=lp' d s.Items NR (fun n (u:List ag) i=>(fC N s v n u i).map (·.2)) (fun t u=>some ⟨u++t.filter fun x=>!decide (x.Id=v),s.Next⟩) (fun u t=>u.length+t.length≤1048576) [] (by simpa using e) (fun n u i x t g1 g2 g3 g4 g5 g6 a b=>by
    simp only[gh] at a
    simp only[fC,g5,if_true,g4,fz,g6,j5]
    by_cases h:x.Id=v
    · simp only[h,decide_true,hA,fI,if_false]
      exact b u NR
    · simp only[h,decide_false,hI,if_true,bO (show u.length+[x].length≤4294967296 by simp;omega),fz]
      rw[b _ (by simp;omega)];simp) (fun n u i g1 g2 a=>by simp only[fC,g2,fI,if_false,y3,List.filter_nil,j2])
  simp only[ha] at this
  cases c:fC N s v N [] 0 with
  | none=>rw[c] at this;simp at this
  | some r=>
    rw[c] at this
    simp only[y3,Option.some.injEq] at this
    exact⟨r.1,by rw[← this]⟩
theorem HC {N:Nat} (r:1099000000000≤N) (l:List ag) (nx:Int) (f:aI) (k:qF f) (h:kQ nx l) (v:nx≤100):∃ q l' g,gz N ⟨l,nx⟩ f=some (q,⟨l',g⟩)∧kQ g l'∧g≤nx+1:=by
  obtain⟨h1,m,d,i⟩:=h
  have s:=fun x c=>(d x c).2.2.2.1
  unfold gz
  rw[Dk r ⟨l,nx⟩ f (by show l.length≤_;omega) (fun x c=>by have:=s x c;omega)]
  simp only[fz]
  by_cases hp:0 < sS l f
  · simp only[hp,decide_true,if_true]
    exact⟨_,_,_,rfl,⟨h1,m,d,i⟩,NR⟩
  · simp only[hp,decide_false,fI,if_false]
    have t:∀ x∈l,x.F≠f:=by
      intro x c e
      apply hp
      unfold sS
      cases j:l.find? (fun x=>decide (x.F=f)) with
      | none=>
        rw[List.find?_eq_none] at j
        have:=j x c
        simp[e] at this
      | some y=>
        have:=(d y (w2 j)).1
        simp only;omega
    by_cases n:(40:Int)≤(l.length:Int)
    · simp only[n,decide_true,if_true,fz]
      exact⟨_,_,_,rfl,⟨h1,m,d,i⟩,NR⟩
    · have hm : ¬ (1000000:Int)≤nx:=by omega
      simp only[n,hm,decide_false,fI,if_false,fz]
      have u:iH N f=some f:=by
        unfold iH
        rw[ft (show f.Fields.length≤4294967296 by have:=k.2.1;omega)];rfl
      simp only[u,fz,bO (show l.length+[(⟨nx,f⟩:ag)].length≤4294967296 by simp;omega)]
      rw[wr (show -9223372036854775808≤nx+1 by omega) NR]
      refine⟨_,_,_,rfl,⟨NR,by simp;omega,?_,?_⟩,NR⟩
      · refine nJ (fun x c=>?_) ⟨NR,by simp only;omega,k⟩
        have:=d x c
        exact⟨this.1,NR,this.2.2⟩
      · refine l0.2 ⟨i,NS,fun a o b p=>?_⟩
        simp at p;subst p
        exact⟨(d a o).2.1,t a o⟩
theorem Jf {N:Nat} (o:1099000000000≤N) {b:List Int} (i:b.length≤1048576) {c:ab} (g:GC b c):Dr b AG (p8 N c):=by
  unfold p8
  refine (kM i g 9 NR).bind fun v d gd C=>?_
  have lp:∀ (n:Nat) (l:List ag) (k x h nx:Int),0≤k→k < n→nx+k≤9→kQ nx l→GC b ⟨c.b,x,h⟩→Dr b AG (gJ N c n l k x h nx):=by
    intro n
    induction n with
    | zero=>intro l k x h nx D h1;omega
    | succ n z=>
      intro l k x h nx D h1 L a p
      simp only[gJ]
      refine .ite (fun hk=>?_) (fun _=>.ret p ⟨by show nx≤9;omega,a⟩)
      have hk:=of_decide_eq_true hk
      have hlen:=a.2.1
      refine (rM i p 5).bind fun q e ge _=>?_
      have m:=ge.at (c:=⟨c.b,x,h⟩) p.1
      have rest:Dr b AG ((jU N (⟨c.b,e.i,e.h⟩:ab)).bind fun r=>(gz N (⟨l,nx⟩:ac) r.1).bind fun A=>gJ N c n A.2.Items (IntKind.i64.wrap (k - 1)) r.2.i r.2.h A.2.Next):=by
        refine (CI o i m).bind fun f E s F=>?_
        obtain⟨G,l',H,t,I,M⟩:=HC o l nx f F a NR
        refine .bindO t ?_
        rw[wrm hk NR]
        exact z l' (k - 1) _ _ H NR NR NR I (s.at (c:=⟨c.b,e.i,e.h⟩) m.1)
      by_cases B:q=true∧0 < l.length
      · have u:(if q=true then some (decide (0 < (l.length:Int))) else some false)=some true:=by
          rw[B.1,decide_eq_true (show (0:Int) < (l.length:Int) by omega)];rfl
        refine .bindO u ?_
        simp only[if_true]
        refine (kM i m (l.length:Int) NR).bind fun w E s hw=>?_
        obtain⟨j,rfl⟩:∃ j:Nat,w=(j:Int):=⟨w.toNat,NR⟩
        refine .bindO (ah (show j < l.length by omega)) ?_
        obtain⟨G,t⟩:=He o ⟨l,nx⟩ l[j].Id (show l.length≤1048576 by omega)
        refine .bindO t ?_
        rw[wrm hk NR]
        have O:=py (fun x:ag=>!decide (x.Id=l[j].Id)) l
        exact z _ (k - 1) _ _ nx NR NR NR ⟨a.1,by show ((l.filter _).length:Int) < nx;omega,fun y K=>a.2.2.1 y (nt.1 K).1,a.2.2.2.filter _⟩ (s.at (c:=⟨c.b,e.i,e.h⟩) m.1)
      · have u:(if q=true then some (decide (0 < (l.length:Int))) else some false)=some false:=by
          cases q with
          | false=>rfl
          | true=>
            have : ¬ 0 < l.length:=fun h=>B ⟨rfl,h⟩
            rw[decide_eq_false (show ¬ (0:Int) < (l.length:Int) by omega)];rfl
        refine .bindO u ?_
        simp only[fI,if_false]
        exact rest
  exact lp N [] v _ _ 1 C.1 NR NR ⟨NR,NS,NS,NS⟩ (gd.at g.1)
def wB (f:aI):Bool:=gy f.Kind && (f.Fields.all tR && decide (f.Fields.length≤5))
def AL (f:aI):Prop:=f.Kind.size≤1048576∧f.Fields.length≤1048576∧∀ v∈f.Fields,v.S.size≤1048576
def mA (s:ac):Prop:=s.Items.length≤1048576∧∀ x∈s.Items,AL x.F
def m9 (done:List ag) (v:Int):Bool:=match done.getLast? with | none=>true | some y=>decide (y.Id < v)
def ny (nx:Int):List ag→List ag→Bool
  | _,[]=>true
  | done,x :: t=>(wB x.F && (decide (1≤x.Id) && decide (x.Id < nx))) && (m9 done x.Id && ((done.all fun y=>!decide (x.F=y.F)) && ny nx (done++[x]) t))
def gl (s:ac):Bool:=(decide (1≤s.Next) && decide (s.Next≤1000000)) && (decide (s.Items.length≤40) && ny s.Next [] s.Items)
theorem Gt {α:Type} {xs:List α} {i:Nat} (h:0 < i) (a:i≤xs.length):(xs.take i).getLast?=some (xs[i - 1]'NR):=by
  rw[List.getLast?_eq_getElem?,my,Nat.min_eq_left a,List.getElem?_take_of_lt NR,gj NR]
def zv:bN:=⟨0,0,⟨#[]⟩⟩
def vg (p:List au) (n:ByteArray):bN × Bool:=match p.find? (fun b=>seq b.Name n) with
  | some b=>(b.V,true)
  | none=>(zv,false)
theorem zM (b:au) (p:List au) (n:ByteArray):vg (b :: p) n=if seq b.Name n=true then (b.V,true) else vg p n:=by
  unfold vg;rw[L6]
  cases seq b.Name n <;> simp
theorem KO {N:Nat} (c:1099000000000≤N) (p:List au) (n:ByteArray) (d:p.length≤4294967296):pr N p n=some (vg p n):=by
  unfold pr
  have:∀ (k i:Nat),i≤p.length→p.length - i < k→iC N p n k i=some (vg (p.drop i) n):=by
    intro k
    induction k with
    | zero=>intro i _ h;omega
    | succ k b=>
      intro i e hk
      simp only[iC]
      by_cases a:i < p.length
      · have c1:decide ((i:Int) < (p.length:Int))=true:=decide_eq_true NR
        rw[gI a,zM]
        simp only[c1,if_true,ah a,fz,wr1 i NR,b (i+1) NR NR]
        cases seq p[i].Name n <;> rfl
      · have c1:decide ((i:Int) < (p.length:Int))=false:=decide_eq_false NR
        simp only[c1,fI,if_false]
        rw[hz NR];rfl
  exact this N 0 NR NR
def ey (b0:List au):List cJ→List bN→List au→List au × Bool
  | a :: as,v :: vs,s=>
    if a.K=2 then (if bQ a.V v=true then ey b0 as vs s else (b0,false))
    else if a.K=1 then (if (vg s a.S).2=true then (if bQ (vg s a.S).1 v=true then ey b0 as vs s else (b0,false)) else ey b0 as vs (s++[⟨a.S,v⟩]))
    else ey b0 as vs s
  | _,_,s=>(s,true)
theorem Ca {N:Nat} (k:1099000000000≤N) (p:ay) (f:aI) (b:List au) (he:p.Args.length=f.Fields.length) (m:p.Args.length≤1048576) (o:b.length≤2147483648):∀ (n i:Nat) (s:List au),i≤p.Args.length→p.Args.length - i < n→s.length≤2147483648+i →
    gq N p f b n s i=some (ey b (p.Args.drop i) (f.Fields.drop i) s):=by
  intro n
  induction n with
  | zero=>intro i s _ h;omega
  | succ n d=>
    intro i s q r t
    simp only[gq]
    by_cases e:i < p.Args.length
    · have c1:decide ((i:Int) < (p.Args.length:Int))=true:=decide_eq_true NR
      have g:i < f.Fields.length:=by omega
      rw[gI e,gI g,ey]
      simp only[c1,if_true,ah e,ah g,fz,KO k s _ (show s.length≤4294967296 by omega),ft (show b.length≤4294967296 by omega),bO (show s.length+[(⟨p.Args[i].S,f.Fields[i]⟩:au)].length≤4294967296 by simp;omega),wr1 i NR,sf,orS]
      have c:=d (i+1) s NR NR NR
      have l:=d (i+1) (s++[⟨p.Args[i].S,f.Fields[i]⟩]) NR NR (by simp;omega)
      by_cases j:p.Args[i].K=2
      · have a : ¬ p.Args[i].K=1:=by omega
        simp only[j,a,decide_true,decide_false,if_true,if_false,hV,q0,vi,fI,fz,show ¬ (2:Int)=1 by omega]
        cases bQ p.Args[i].V f.Fields[i] with
        | true=>simpa using c
        | false=>simp
      · by_cases a:p.Args[i].K=1
        · simp only[a,decide_true,decide_false,if_true,if_false,hV,q0,zx,fI,fz,show ¬ (1:Int)=2 by omega]
          cases (vg s p.Args[i].S).2 with
          | true=>
            simp only[if_true,hA,hV,fI,if_false]
            cases bQ (vg s p.Args[i].S).1 f.Fields[i] with
            | true=>simpa using c
            | false=>simp
          | false=>simpa using l
        · simp only[a,j,decide_false,if_false,q0,zx,vi,fI,fz]
          simpa using c
    · have c1:decide ((i:Int) < (p.Args.length:Int))=false:=decide_eq_false NR
      simp only[c1,fI,if_false]
      rw[hz NR]
      rfl
def bw (p:ay) (f:aI) (b:List au):List au × Bool:=if seq p.Kind f.Kind=true∧p.Args.length=f.Fields.length then ey b p.Args f.Fields b else (b,false)
theorem Eb {N:Nat} (c:1099000000000≤N) (p:ay) (f:aI) (b:List au) (d:p.Args.length≤1048576) (e:b.length≤2147483648):kG N p f b=some (bw p f b):=by
  unfold kG bw
  rw[ft NR]
  simp only[fz,orS]
  cases hk:seq p.Kind f.Kind with
  | false=>simp
  | true=>
    by_cases he:p.Args.length=f.Fields.length
    · have a:decide ((p.Args.length:Int)=(f.Fields.length:Int))=true:=decide_eq_true NR
      have:=(Ca c p f b he d e N 0 b NR NR NR)
      simp only[a,he,hA,vi,fI,if_false,true_and,if_true]
      simpa using this
    · have a:decide ((p.Args.length:Int)=(f.Fields.length:Int))=false:=decide_eq_false NR
      simp[a,he]
theorem qA {b0:List au}:∀ (as:List cJ) (vs:List bN) (s:List au),(ey b0 as vs s).1.length≤b0.length∨(ey b0 as vs s).1.length≤s.length+as.length
  | [],vs,s=>.inr (by simp[ey])
  | a :: as,[],s=>.inr (by simp[ey])
  | a :: as,v :: vs,s=>by
    have h1:=qA (b0:=b0) as vs s
    have b:=qA (b0:=b0) as vs (s++[⟨a.S,v⟩])
    simp only[gi,gh,gk] at h1 b ⊢
    unfold ey
    split
    · split
      · omega
      · exact .inl (hn _)
    · split
      · split
        · split
          · omega
          · exact .inl (hn _)
        · omega
      · omega
theorem kF (p:ay) (f:aI) (b:List au):(bw p f b).1.length≤b.length+p.Args.length:=by
  unfold bw
  split
  · have:=qA (b0:=b) p.Args f.Fields b;omega
  · simp
def sL (p:ay) (l:List au) (xs:List ag):Nat:=xs.countP fun x=>(bw p x.F l).2
def jP (ps:List ay) (xs:List ag) (l:List au):Bool:=ps.any fun p=>p.Not && xs.any fun x=>(bw p x.F l).2
theorem xn (p:ay) (l:List au) (xs:List ag):sL p l xs≤xs.length:=List.countP_le_length
theorem BH (p:ay) (l:List au) (xs:List ag):decide ((0:Int) < (sL p l xs:Int))=xs.any fun x=>(bw p x.F l).2:=by
  rw[sY,decide_eq_true_eq,K4]
  have:(0:Int) < (sL p l xs:Int)↔0 < sL p l xs:=by omega
  rw[this,sL,List.countP_pos_iff]
def oh (a:cJ) (l:List au):bN × Bool:=if a.K=2 then (a.V,true) else if a.K=1 then vg l a.S else (zv,false)
def I2 (x y:bN):Bool:=if x.K=y.K then (if x.N=y.N then slt x.S y.S else decide (x.N < y.N)) else decide (x.K < y.K)
def holds (c:f9) (l:List au):Bool:=((oh c.L l).2 && (oh c.R l).2) && (if c.Op=1 then decide ((oh c.L l).1=(oh c.R l).1) else if c.Op=2 then !decide ((oh c.L l).1=(oh c.R l).1) else if c.Op=3 then I2 (oh c.L l).1 (oh c.R l).1 else false)
def dm (l:List ay):Nat:=(l.map fun p=>p.Args.length).sum
theorem eU (p:ay) (t:List ay):dm (p :: t)=p.Args.length+dm t:=by simp[dm]
theorem rO (n:Nat):∀ (l:List ay),dm (l.take n)≤dm l:=by
  induction n with
  | zero=>intro l;simp[dm]
  | succ n a=>
    intro l
    cases l with
    | nil=>simp
    | cons p t=>rw[List.take_succ_cons,eU,eU];have:=a t;omega
def lv (fin:List Int→List au→List a7) (xs:List ag):List ay→List Int→List au→List a7
  | [],ids,l=>fin ids l
  | p :: t,ids,l=>xs.flatMap fun x=>if (bw p x.F l).2=true then lv fin xs t (ids++[x.Id]) (bw p x.F l).1 else []
def yA (r:af) (xs:List ag) (ids:List Int) (l:List au):List a7:=if (!jP r.Pats xs l && r.Conds.all fun c=>holds c l)=true then [⟨0,ids,l⟩] else []
def iU (r:af) (xs:List ag):List a7:=lv (yA r xs) xs (r.Pats.take (ak r.Pats)) [] []
theorem wZ {α β:Type} {f:α→List β} {M:Nat}:∀ (l:List α),(∀ x∈l,(f x).length≤M)→(l.flatMap f).length≤l.length*M
  | [],_=>by simp
  | x :: t,h=>by
    have h1:=wZ t fun y a=>h y (by simp[a])
    have b:=h x NS
    rw[ks,gi,gh,hB];omega
theorem tB {fin:List Int→List au→List a7} (a:∀ ids l,(fin ids l).length≤1) (xs:List ag):∀ (ps:List ay) (ids:List Int) (l:List au),(lv fin xs ps ids l).length≤xs.length ^ ps.length
  | [],ids,l=>by simpa[lv] using a ids l
  | p :: t,ids,l=>by
    unfold lv
    rw[gh,Nat.pow_succ,Nat.mul_comm]
    refine wZ xs fun x b=>?_
    split
    · exact tB a xs t _ _
    · exact jt _
theorem vd (r:af) (xs:List ag) (ids:List Int) (l:List au):(yA r xs ids l).length≤1:=by unfold yA;split <;> simp
structure yO (r:af) (s:ac):Prop where
  pl:r.Pats.length≤1048576
  pa:∀ p∈r.Pats,p.Args.length≤1048576
  sa:dm r.Pats≤1048576
  cl:r.Conds.length≤1048576
  xl:s.Items.length≤1048576
  nm:s.Items.length ^ ak r.Pats≤1073741824
theorem BG {fin:List Int→List au→List a7} (a:∀ ids l,∀ m∈fin ids l,m.Ids=ids∧m.Binds=l) (xs:List ag):∀ (ps:List ay) (ids:List Int) (l:List au),∀ m∈lv fin xs ps ids l,m.Ids.length=ids.length+ps.length∧m.Binds.length≤l.length+dm ps
  | [],ids,l,m,hm=>by
    obtain⟨h1,b⟩:=a ids l m (by simpa[lv] using hm)
    rw[h1,b];simp
  | p :: t,ids,l,m,hm=>by
    unfold lv at hm
    obtain⟨x,c,hm⟩:=ix.1 hm
    split at hm
    · have h1:=BG a xs t (ids++[x.Id]) (bw p x.F l).1 m hm
      have b:=kF p x.F l
      rw[eU]
      simp only[gi,gh,gk] at h1 ⊢
      omega
    · cases hm
theorem JH (r:af) (xs:List ag):∀ ids l,∀ m∈yA r xs ids l,m.Ids=ids∧m.Binds=l:=by
  intro ids l m hm
  unfold yA at hm
  split at hm
  · simp at hm;rw[hm];exact⟨rfl,rfl⟩
  · cases hm
def pos (l:List ay):List ay:=l.filter fun p=>!p.Not
theorem qj:∀ (l:List ay),dm (pos l)≤dm l
  | []=>by simp[pos]
  | p :: t=>by
    have:=qj t
    unfold pos at this ⊢
    rw[j5,eU]
    split
    · rw[eU];omega
    · omega
theorem AE (l:List ay):(l.filter fun p=>p.Not == false)=pos l:=by
  unfold pos;congr 1;funext p;cases p.Not <;> rfl
def Da:aI:=⟨⟨#[]⟩,[]⟩
def aF (xs:List ag) (v:Int):aI × Bool:=match xs.find? (fun x=>decide (x.Id=v)) with | some x=>(x.F,true) | none=>(Da,false)
theorem ky (x:ag) (xs:List ag) (v:Int):aF (x :: xs) v=if x.Id=v then (x.F,true) else aF xs v:=by
  unfold aF
  rw[L6]
  by_cases h:x.Id=v <;> simp[h]
theorem Dh {xs:List ag} (a:∀ x∈xs,x.F.Fields.length≤1048576) (v:Int):(aF xs v).1.Fields.length≤1048576:=by
  unfold aF
  split
  · rename_i x h;exact a x (w2 h)
  · simp[Da]
def bd (xs:List ag):List ay→List Int→List au→List au × Bool
  | [],[],l=>(l,true)
  | p :: t,v :: ids,l=>if (aF xs v).2=true∧(bw p (aF xs v).1 l).2=true then bd xs t ids (bw p (aF xs v).1 l).1 else ([],false)
  | _,_,_=>([],false)
theorem vP {xs:List ag}:∀ {ps:List ay} {ids:List Int} {l:List au},ps.length≠ids.length→bd xs ps ids l=([],false)
  | [],[],l,h=>absurd rfl h
  | [],v :: ids,l,h=>rfl
  | p :: t,[],l,h=>rfl
  | p :: t,v :: ids,l,h=>by
    unfold bd
    split
    · exact vP (by simpa using h)
    · rfl
theorem ut {xs:List ag}:∀ (ps:List ay) (ids:List Int) (l:List au),(bd xs ps ids l).1.length≤l.length+dm ps
  | [],[],l=>by simp[bd]
  | [],v :: ids,l=>by simp[bd]
  | p :: t,[],l=>by simp[bd]
  | p :: t,v :: ids,l=>by
    have h1:=kF p (aF xs v).1 l
    have a:=ut (xs:=xs) t ids (bw p (aF xs v).1 l).1
    rw[eU]
    unfold bd
    split
    · omega
    · simp
def jb:List Int→List Int→Bool
  | a :: x,b :: y=>if a=b then jb x y else decide (a < b)
  | _,_=>false
def mh (x y:a7):Bool:=if x.Rule=y.Rule then (if x.Ids.length=y.Ids.length then jb x.Ids y.Ids else decide (x.Ids.length < y.Ids.length)) else decide (x.Rule < y.Rule)
theorem BU:∀ (x y:List Int),(jb x y && jb y x)=false
  | [],_=>by simp[jb]
  | _ :: _,[]=>by simp[jb]
  | a :: x,b :: y=>by
    unfold jb
    by_cases h:a=b
    · simp only[h,if_true];exact BU x y
    · have c : ¬ b=a:=fun e=>h e.symm
      simp only[h,c,if_false]
      rw[← rr,decide_eq_false_iff_not];omega
theorem EK:∀ (x y:List Int),x.length=y.length→(jb x y || jb y x) = !decide (x=y)
  | [],[],_=>by simp[jb]
  | [],_ :: _,h=>by simp at h
  | _ :: _,[],h=>by simp at h
  | a :: x,b :: y,c=>by
    unfold jb
    by_cases h:a=b
    · subst h
      simp only[if_true,EK x y (by simpa using c),List.cons.injEq,true_and]
    · have d : ¬ b=a:=fun e=>h e.symm
      simp only[h,d,if_false,List.cons.injEq,false_and,decide_false,hI]
      rw[← Bool.decide_or,decide_eq_true_eq];omega
theorem Gd (x y:a7):(mh x y && mh y x)=false:=by
  unfold mh
  by_cases a:x.Rule=y.Rule
  · by_cases b:x.Ids.length=y.Ids.length
    · simp only[a,b,if_true];exact BU _ _
    · have c : ¬ y.Ids.length=x.Ids.length:=fun e=>b e.symm
      simp only[a,b,c,if_true,if_false]
      rw[← rr,decide_eq_false_iff_not];omega
  · have d : ¬ y.Rule=x.Rule:=fun e=>a e.symm
    simp only[a,d,if_false]
    rw[← rr,decide_eq_false_iff_not];omega
theorem Ae:∀ (x y z:List Int),jb x y=true→jb y z=true→x.length=y.length→y.length=z.length→jb x z=true
  | [],_,_,h,_,_,_=>by simp[jb] at h
  | a :: x,[],_,h,_,_,_=>by simp[jb] at h
  | a :: x,b :: y,[],_,h,_,_=>by simp[jb] at h
  | a :: x,b :: y,c :: z,h1,d,g,i=>by
    unfold jb at h1 d ⊢
    by_cases f:a=b
    · by_cases e:b=c
      · rw[if_pos f] at h1;rw[if_pos e] at d;rw[if_pos (f.trans e)]
        exact Ae x y z h1 d (by simpa using g) (by simpa using i)
      · rw[if_neg e] at d;rw[if_neg NR]
        simp only[decide_eq_true_eq] at d ⊢;omega
    · rw[if_neg f] at h1
      simp only[decide_eq_true_eq] at h1
      by_cases e:b=c
      · rw[if_neg NR];simp only[decide_eq_true_eq];omega
      · rw[if_neg e] at d
        simp only[decide_eq_true_eq] at d
        rw[if_neg NR];simp only[decide_eq_true_eq];omega
theorem De {x y z:a7} (h1:mh x y=true) (a:mh y z=true):mh x z=true:=by
  unfold mh at h1 a ⊢
  by_cases e:x.Rule=y.Rule
  · rw[if_pos e] at h1
    by_cases c:y.Rule=z.Rule
    · rw[if_pos c] at a
      rw[if_pos (e.trans c)]
      by_cases d:x.Ids.length=y.Ids.length
      · rw[if_pos d] at h1
        by_cases b:y.Ids.length=z.Ids.length
        · rw[if_pos b] at a
          rw[if_pos (d.trans b)]
          exact Ae _ _ _ h1 a d b
        · rw[if_neg b] at a
          rw[if_neg NR]
          simp only[decide_eq_true_eq] at a ⊢;omega
      · rw[if_neg d] at h1
        simp only[decide_eq_true_eq] at h1
        by_cases b:y.Ids.length=z.Ids.length
        · rw[if_neg NR];simp only[decide_eq_true_eq];omega
        · rw[if_neg b] at a
          simp only[decide_eq_true_eq] at a
          rw[if_neg NR];simp only[decide_eq_true_eq];omega
    · rw[if_neg c] at a
      rw[if_neg NR]
      simp only[decide_eq_true_eq] at a ⊢;omega
  · rw[if_neg e] at h1
    simp only[decide_eq_true_eq] at h1
    by_cases c:y.Rule=z.Rule
    · rw[if_neg NR];simp only[decide_eq_true_eq];omega
    · rw[if_neg c] at a
      simp only[decide_eq_true_eq] at a
      rw[if_neg NR];simp only[decide_eq_true_eq];omega
def p9 (xs:List ag):Prop:=xs.Pairwise fun a b=>a.Id < b.Id
theorem y4 {x:ag}:∀ {xs:List ag},p9 xs→x∈xs→aF xs x.Id=(x.F,true)
  | [],_,h=>by cases h
  | y :: t,hu,h=>by
    obtain⟨h1,a⟩:=List.pairwise_cons.1 hu
    rw[ky]
    rcases hE.1 h with rfl | h
    · rw[if_pos rfl]
    · have:=h1 x h
      rw[if_neg NR]
      exact y4 a h
theorem Bp {xs:List ag} {v:Int} (h:(aF xs v).2=true):∃ x∈xs,x.Id=v∧aF xs v=(x.F,true):=by
  unfold aF at h ⊢
  cases a:xs.find? (fun x=>decide (x.Id=v)) with
  | none=>rw[a] at h;simp at h
  | some x=>
    have:=List.find?_some a
    exact⟨x,w2 a,by simpa using this,rfl⟩
theorem tx {fin:List Int→List au→List a7} {xs:List ag} (hu:p9 xs):∀ (ps:List ay) (ids:List Int) (l:List au) (m:a7),m∈lv fin xs ps ids l→∃ a b,bd xs ps a l=(b,true)∧m∈fin (ids++a) b
  | [],ids,l,m,h=>⟨[],l,rfl,by simpa[lv] using h⟩
  | p :: t,ids,l,m,h=>by
    unfold lv at h
    obtain⟨x,c,h⟩:=ix.1 h
    by_cases hm:(bw p x.F l).2=true
    · rw[if_pos hm] at h
      obtain⟨a,b,h1,d⟩:=tx hu t _ _ m h
      refine⟨x.Id :: a,b,?_,by simpa using d⟩
      have e:=y4 hu c
      unfold bd
      rw[e]
      simp only[hm,and_self,if_true]
      exact h1
    · rw[if_neg hm] at h;cases h
theorem C3 {fin:List Int→List au→List a7} {xs:List ag}:∀ (ps:List ay) (a ids:List Int) (l b:List au),bd xs ps a l=(b,true)→∀ m∈fin (ids++a) b,m∈lv fin xs ps ids l
  | [],[],ids,l,b,h,m,hm=>by
    have:l=b:=by have:=congrArg Prod.fst h;simpa[bd] using this
    subst this
    simpa[lv] using hm
  | [],v :: a,ids,l,b,h,m,hm=>by simp[bd] at h
  | p :: t,[],ids,l,b,h,m,hm=>by simp[bd] at h
  | p :: t,v :: a,ids,l,b,h,m,hm=>by
    unfold bd at h
    split at h
    · rename_i c
      obtain⟨x,d,rfl,e⟩:=Bp c.1
      rw[e] at h c
      unfold lv
      refine ix.2 ⟨x,d,?_⟩
      rw[if_pos c.2]
      exact C3 t a (ids++[x.Id]) _ b h m (by simpa using hm)
    · simp at h
theorem DY:∀ (p x y:List Int),jb (p++x) (p++y)=jb x y
  | [],x,y=>rfl
  | a :: p,x,y=>by
    show (if a=a then jb (p++x) (p++y) else decide (a < a))=jb x y
    rw[if_pos rfl]
    exact DY p x y
theorem uQ {fin:List Int→List au→List a7} {xs:List ag} (hu:p9 xs) (f:∀ ids l,(fin ids l).length≤1) (c:∀ ids l,∀ m∈fin ids l,m.Ids=ids):∀ (ps:List ay) (ids:List Int) (l:List au),(lv fin xs ps ids l).Pairwise fun a b=>jb a.Ids b.Ids=true
  | [],ids,l=>by
    unfold lv
    have:=f ids l
    match h:fin ids l with
    | []=>exact List.Pairwise.nil
    | [a]=>exact List.pairwise_singleton _ a
    | a :: b :: t=>rw[h] at this;simp at this
  | p :: t,ids,l=>by
    unfold lv
    rw[List.pairwise_flatMap]
    refine⟨fun x j=>?_,hu.imp fun {x y} g=>?_⟩
    · split
      · exact uQ hu f c t _ _
      · exact List.Pairwise.nil
    · intro a d b e
      split at d
      · split at e
        · obtain⟨s1,k,_,h1⟩:=tx hu t _ _ a d
          obtain⟨s2,n,_,i⟩:=tx hu t _ _ b e
          rw[c _ _ a h1,c _ _ b i,gf,gf,DY,O6,O6]
          unfold jb
          rw[if_neg NR]
          simpa using g
        · cases e
      · cases d
theorem yw {xs:List ag}:∀ (ps:List ay) (ids:List Int) (l b:List au),bd xs ps ids l=(b,true)→ids.length=ps.length:=by
  intro ps ids l b h
  by_cases he:ps.length=ids.length
  · exact he.symm
  · rw[vP he] at h;simp at h
theorem BP (r:af) (xs:List ag):∀ ids l,∀ m∈yA r xs ids l,m=⟨0,ids,l⟩∧(!jP r.Pats xs l && r.Conds.all fun c=>holds c l)=true:=by
  intro ids l m hm
  unfold yA at hm
  split at hm
  · rename_i a
    simp at hm;exact⟨hm,a⟩
  · cases hm
theorem pN {r:af} {xs:List ag} (hu:p9 xs) {m:a7} (h:m∈iU r xs):m.Rule=0∧bd xs (r.Pats.take (ak r.Pats)) m.Ids []=(m.Binds,true)∧(!jP r.Pats xs m.Binds && r.Conds.all fun c=>holds c m.Binds)=true:=by
  unfold iU at h
  obtain⟨e,b,h1,a⟩:=tx hu _ _ _ m h
  obtain⟨rfl,d⟩:=BP r xs _ _ m a
  exact⟨rfl,by simpa using h1,d⟩
theorem Af {r:af} {xs:List ag} {ids:List Int} {b:List au} (h:bd xs (r.Pats.take (ak r.Pats)) ids []=(b,true)) (a:(!jP r.Pats xs b && r.Conds.all fun c=>holds c b)=true):(⟨0,ids,b⟩:a7)∈iU r xs:=by
  unfold iU
  refine C3 _ ids [] [] b h _ ?_
  unfold yA
  rw[if_pos a];simp
theorem zy {r:af} {xs:List ag} (hu:p9 xs):(iU r xs).Pairwise fun a b=>mh a b=true:=by
  have h1:=uQ hu (vd r xs) (fun ids l m hm=>by rw[(BP r xs ids l m hm).1]) (r.Pats.take (ak r.Pats)) [] []
  have c:∀ m∈iU r xs,m.Rule=0∧m.Ids.length=(r.Pats.take (ak r.Pats)).length:=fun m hm=>by
    obtain⟨a,b,_⟩:=pN hu hm
    exact⟨a,yw _ _ _ _ b⟩
  refine List.Pairwise.imp_of_mem (fun {a b} d e f=>?_) h1
  obtain⟨g,a2⟩:=c a d
  obtain⟨h,i⟩:=c b e
  unfold mh
  rw[if_pos (by rw[g,h]),if_pos (by rw[a2,i])]
  exact f
theorem zK {f:aI} (h:qF f):wB f=true:=by
  obtain⟨h1,a,b⟩:=h
  have c:=(show ∀ s∈Dw,gy s=true by decide) _ h1
  unfold wB
  rw[c,decide_eq_true a,p4.2 fun v d=>Bq (b v d)];rfl
theorem zN {f:aI} (h:qF f):AL f:=by
  obtain⟨h1,c,a⟩:=h
  have d:=(show ∀ s∈Dw,s.size≤16 by decide) _ h1
  exact⟨NR,NR,fun v b=>by have:=xH (a v b);omega⟩
theorem BC {nx:Int}:∀ (t done:List ag),(∀ x∈t,1≤x.Id∧x.Id < nx∧qF x.F)→(done++t).Pairwise (fun a b=>a.Id < b.Id∧a.F≠b.F)→ny nx done t=true
  | [],done,_,_=>rfl
  | x :: t,done,h,hp=>by
    obtain⟨h1,f,g⟩:=h x NS
    have d:=l0.1 hp
    have i:m9 done x.Id=true:=by
      unfold m9
      cases j:done.getLast? with
      | none=>rfl
      | some y=>exact decide_eq_true (d.2.2 y (List.mem_of_getLast? j) x NS).1
    have k:(done.all fun y=>!decide (x.F=y.F))=true:=p4.2 fun y c=>by
      have:=(d.2.2 y c x NS).2
      rw[decide_eq_false fun e=>this e.symm];rfl
    unfold ny
    rw[zK g,decide_eq_true h1,decide_eq_true f,i,k,BC t (done++[x]) (fun y c=>h y (by simp[c])) (by simpa using hp)];rfl
theorem sE {a:cJ} (h:sK a):xa a:=by have:=h.1;have:=h.2;exact⟨NR,NR⟩
theorem If {p:ay} (h:H8 p):E7 p:=by
  obtain⟨h1,d,b⟩:=h
  exact⟨NR,NR,fun a c=>sE (b a c)⟩
theorem FX {c:f9} (h:Gm c):CX c:=⟨sE h.1,sE h.2⟩
theorem Fq0 {e:dY} (h:CE e):Dg e:=by
  obtain⟨h1,a,b⟩:=h
  exact⟨NR,sE a,sE b⟩
theorem Gw {a:fd} (h:HK a):Ex a:=by
  obtain⟨h1,d,b,e⟩:=h
  exact⟨NR,NR,NR,fun a c=>Fq0 (b a c)⟩
theorem A8 {B:Nat}:∀ {l:List fd},(∀ p∈l,p.Args.length≤B)→mz l≤l.length*B
  | [],_=>by simp[mz]
  | p :: t,h=>by
    have h1:=A8 (l:=t) fun q a=>h q (by simp[a])
    have c:=h p NS
    have b:mz (p :: t)=p.Args.length+mz t:=by simp[mz]
    rw[b,gh,hB];omega
theorem Fh {r:af} (h:Dy r):CL r:=by
  obtain⟨h1,⟨i,d⟩,⟨j,f⟩,h4,e⟩:=h
  have k:=yg (B:=16) fun p hp=>(d p hp).2.1
  have l:=A8 (B:=16) fun a b=>(e a b).2.1
  exact⟨NR,⟨NR,fun p hp=>If (d p hp)⟩,⟨NR,fun c g=>FX (f c g)⟩,⟨NR,fun a b=>Gw (e a b)⟩,NR,by
    have:mz r.Acts≤1048576:=by omega
    exact this⟩
theorem BY {d:bv} (h:Kr d):rb d:=by
  obtain⟨h1,c,a⟩:=h
  exact⟨NR,NR,fun r b=>Fh (a r b)⟩
def jV:List cJ→List bN
  | []=>[]
  | a :: t=>if a.K=2 then a.V :: jV t else jV t
def ats:Nat→List cJ→List Int
  | _,[]=>[]
  | i,a :: t=>if a.K=2 then (i:Int) :: ats (i+1) t else ats (i+1) t
def aW (p:ay):av:=⟨p.Kind,(p.Args.length:Int),jV p.Args,ats 0 p.Args⟩
theorem yd:∀ (l:List cJ),(jV l).length≤l.length
  | []=>by simp[jV]
  | a :: t=>by have:=yd t;unfold jV;split <;> simp <;> omega
theorem Ek:∀ (l:List cJ) (i:Nat),(ats i l).length≤l.length
  | [],_=>by simp[ats]
  | a :: t,i=>by have:=Ek t (i+1);unfold ats;split <;> simp <;> omega
theorem JL {N:Nat} (c:1099000000000≤N) (p:ay) (d:p.Args.length≤1048576):nM N p=some (aW p):=by
  have lp:∀ (n i:Nat) (cs:List bN) (as:List Int),i≤p.Args.length→p.Args.length - i < n→cs.length≤i→as.length≤i →
      ga N p n cs as i=some ⟨p.Kind,(p.Args.length:Int),cs++jV (p.Args.drop i),as++ats i (p.Args.drop i)⟩:=by
    intro n
    induction n with
    | zero=>intro i _ _ _ h;omega
    | succ n a=>
      intro i cs as e f h1 g
      by_cases b:i < p.Args.length
      · have c1:decide ((i:Int) < (p.Args.length:Int))=true:=decide_eq_true NR
        rw[gI b]
        simp only[ga,c1,if_true,ah b,fz,wr1 i NR,jV,ats]
        by_cases hk:p.Args[i].K=2
        · simp only[hk,decide_true,if_true,bO (show cs.length+[p.Args[i].V].length≤4294967296 by simp;omega),bO (show as.length+[(i:Int)].length≤4294967296 by simp;omega),fz]
          rw[a (i+1) _ _ NR NR (by simp;omega) (by simp;omega)];simp
        · simp only[hk,decide_false,fI,if_false]
          exact a (i+1) _ _ NR NR NR NR
      · have c1:decide ((i:Int) < (p.Args.length:Int))=false:=decide_eq_false NR
        rw[hz NR]
        simp only[ga,c1,fI,if_false,jV,ats,j2]
  have:=lp N 0 [] [] NR NR NS NS
  unfold nM aW
  simpa using this
theorem Lx (x y:bN):bQ x y=decide (x=y):=iw x y
def kT (a:av):Prop:=a.Consts.length≤1048576∧a.At.length≤1048576
theorem Be {N:Nat} (d:1099000000000≤N) (x y:List Int) (f:x.length≤4294967296):co N x y=some (decide (x=y)):=by
  unfold co
  by_cases c:x.length=y.length
  · rw[if_neg (by simp;omega)]
    refine (qn (cX N x y) x y c NR (fun a b=>some (decide (a=b))) (fun a _ b _=>rfl) (fun k i=>rfl) N 0 NR NR).trans ?_
    simp
  · rw[if_pos (by simp;omega)]
    have : ¬ x=y:=fun e=>c (by rw[e])
    simp[this]
theorem KI {N:Nat} (d:1099000000000≤N) (x y:List bN) (f:x.length≤4294967296):cG N x y=some (decide (x=y)):=by
  unfold cG
  by_cases c:x.length=y.length
  · rw[if_neg (by simp;omega)]
    refine (qn (bD N x y) x y c NR (fun a b=>some (decide (a=b))) (fun a _ b _=>rfl) (fun k i=>by simp only[bD,Lx,fz]) N 0 NR NR).trans ?_
    simp
  · rw[if_pos (by simp;omega)]
    have : ¬ x=y:=fun e=>c (by rw[e])
    simp[this]
theorem DN {N:Nat} (i:1099000000000≤N) (x y:av) (h:kT x):eD N x y=some (decide (x=y)):=by
  unfold eD
  simp only[Be i _ _ (show x.At.length≤4294967296 by have:=h.2;omega),KI i _ _ (show x.Consts.length≤4294967296 by have:=h.1;omega),fz,sf,kZ]
  obtain⟨a,b,c,d⟩:=x;obtain⟨e,f,g,k⟩:=y
  simp only[av.mk.injEq,← rr,and_assoc]
def bZ (as:List av) (a:av):Int × List av:=match as.findIdx? (fun x=>decide (x=a)) with | some j=>((j:Int),as) | none=>((as.length:Int),as++[a])
def cg:List av→List Int→List Int→List ay→List av × List Int × List Int
  | as,p,n,[]=>(as,p,n)
  | as,p,n,x :: t=>if x.Not then cg (bZ as (aW x)).2 p (n++[(bZ as (aW x)).1]) t else cg (bZ as (aW x)).2 (p++[(bZ as (aW x)).1]) n t
def eX:List av→List aG→List af→ce
  | as,cs,[]=>⟨as,cs⟩
  | as,cs,r :: t=>eX (cg as [] [] r.Pats).1 (cs++[⟨(cg as [] [] r.Pats).2.1,(cg as [] [] r.Pats).2.2⟩]) t
def bS (d:bv):ce:=eX [] [] d.Rules
theorem uA {p:ay} (h:p.Args.length≤1048576):kT (aW p):=by
  have h1:=yd p.Args
  have a:=Ek p.Args 0
  exact⟨by show (jV p.Args).length≤_;omega,by show (ats 0 p.Args).length≤_;omega⟩
theorem pW (as:List av) (a:av):(bZ as a).2.length≤as.length+1∧as.length≤(bZ as a).2.length:=by
  unfold bZ
  split <;> simp
theorem si {P:av→Prop} {as:List av} {a:av} (h:∀ x∈as,P x) (b:P a):∀ x∈(bZ as a).2,P x:=by
  unfold bZ
  split
  · exact h
  · intro x c
    rcases gb.1 c with h1 | h1
    · exact h x h1
    · simp at h1;rw[h1];exact b
theorem sG {P:av→Prop}:∀ (t:List ay) (as:List av) (p n:List Int),(∀ x∈as,P x)→(∀ x∈t,P (aW x))→∀ x∈(cg as p n t).1,P x
  | [],as,p,n,h,_=>h
  | x :: t,as,p,n,h,a=>by
    unfold cg
    have:=si h (a x NS)
    split
    · exact sG t _ _ _ this fun y b=>a y (by simp[b])
    · exact sG t _ _ _ this fun y b=>a y (by simp[b])
theorem sj:∀ (t:List ay) (as:List av) (p n:List Int),(cg as p n t).1.length≤as.length+t.length∧(cg as p n t).2.1.length+(cg as p n t).2.2.length=p.length+n.length+t.length
  | [],as,p,n=>by simp[cg]
  | x :: t,as,p,n=>by
    have h1:=(pW as (aW x)).1
    unfold cg
    split
    · have:=sj t (bZ as (aW x)).2 p (n++[(bZ as (aW x)).1])
      simp only[gi,gh,gk] at this ⊢
      omega
    · have:=sj t (bZ as (aW x)).2 (p++[(bZ as (aW x)).1]) n
      simp only[gi,gh,gk] at this ⊢
      omega
def o4 (l:List af):Nat:=(l.map fun r=>r.Pats.length).sum
theorem np (r:af) (t:List af):o4 (r :: t)=r.Pats.length+o4 t:=by simp[o4]
def yu (a:List af):Prop:=a.length≤1048576∧o4 a≤1048576∧∀ r∈a,∀ p∈r.Pats,p.Args.length≤1048576
theorem BI {B:Nat}:∀ {l:List af},(∀ r∈l,r.Pats.length≤B)→o4 l≤l.length*B
  | [],_=>by simp[o4]
  | p :: t,h=>by
    have h1:=BI (l:=t) fun q a=>h q (by simp[a])
    have b:=h p NS
    rw[np,gh,hB];omega
theorem vB {c:Nat}:∀ (l:List ay) (i:Nat),iq c i l=true→∀ p∈l,tV p=true
  | [],_,_,p,hp=>by cases hp
  | x :: t,i,h,p,hp=>by
    unfold iq at h
    simp only[gm] at h
    rcases hE.1 hp with rfl | hp
    · exact h.1
    · exact vB t _ h.2.2 p hp
theorem mT {d:bv} (b:iP d=true):yu d.Rules:=by
  have h1:d.Rules.length≤12:=by
    unfold iP at b
    simp only[gm,decide_eq_true_eq] at b
    exact b.2.1.2
  have c:∀ r∈d.Rules,iK r.Pats=true:=fun r a=>by
    have:=ng b r a
    unfold iY at this
    simp only[gm] at this
    exact this.2.2.1
  have f:∀ r∈d.Rules,r.Pats.length≤6:=fun r a=>by
    have:=c r a
    unfold iK at this
    simp only[gm,decide_eq_true_eq] at this
    exact this.1.2
  have g:=BI f
  refine⟨NR,NR,fun r a p hp=>?_⟩
  have:=c r a
  unfold iK at this
  simp only[gm,decide_eq_true_eq] at this
  have e:=vB _ _ this.2.2 p hp
  unfold tV at e
  simp only[gm,decide_eq_true_eq] at e
  omega
theorem xL:∀ (l:List ay),(l.filter fun x=>!x.Not).length+(l.filter fun x=>x.Not).length=l.length
  | []=>rfl
  | p :: t=>by
    have:=xL t
    simp only[j5]
    cases p.Not <;> simp <;> omega
theorem pq:∀ (l:List ay),(l.filter fun x=>!x.Not).length=ak l
  | []=>rfl
  | p :: t=>by
    have:=pq t
    simp only[j5,ak]
    cases p.Not <;> simp[this]
theorem u7 {c:Nat}:∀ (l:List ay) (i:Nat),iq c i l=true→l.filter (fun x=>!x.Not)=l.take (c - i)
  | [],i,_=>by simp
  | p :: t,i,h=>by
    unfold iq at h
    simp only[gm,beq_iff_eq] at h
    have h1:=h.2.1
    have a:=u7 t (i+1) h.2.2
    by_cases d:c≤i
    · rw[decide_eq_true d] at h1
      have e:c - i=0:=by omega
      have b:c - (i+1)=0:=by omega
      rw[e,List.take_zero,j5,h1]
      rw[b,List.take_zero] at a
      simpa using a
    · rw[decide_eq_false d] at h1
      obtain⟨k,hk⟩:∃ k,c - i=k+1:=⟨c - i - 1,NR⟩
      have b:c - (i+1)=k:=by omega
      rw[hk,List.take_succ_cons,j5,h1,← b,← a]
      simp
theorem sV {l:List ay} (h:iK l=true):l.filter (fun x=>!x.Not)=l.take (ak l):=by
  unfold iK at h
  simp only[gm] at h
  have:=u7 l 0 h.2.2
  simpa using this
def Hk (n:ce):Prop:=(n.Alphas.length≤1048576∧∀ a∈n.Alphas,kT a)∧n.Chains.length≤1048576∧∀ c∈n.Chains,c.Pos.length≤1048576∧c.Neg.length≤1048576
theorem C4 {as:List av} {a:av} (c:as.length≤4611686018427387900):idx (bZ as a).2 (bZ as a).1=some a:=by
  unfold bZ
  split
  · rename_i j h
    rw[K3] at h
    obtain⟨b,h1,_⟩:=h
    simp only[ah b]
    simpa using h1
  · simp only
    rw[ah NS]
    simp
theorem IC {α:Type} {xs b:List α} {i:Int} {a:α} (h:idx xs i=some a):idx (xs++b) i=some a:=by
  obtain⟨c,h1,e⟩:=a8 h
  unfold idx
  rw[if_pos c,oj NR]
  exact e
theorem Cd (as:List av) (a:av):∃ u,(bZ as a).2=as++u:=by
  unfold bZ
  split
  · exact⟨[],NS⟩
  · exact⟨[a],rfl⟩
theorem z7 {as:List av} {a:av} (h:as.Nodup):(bZ as a).2.Nodup:=by
  unfold bZ
  split
  · exact h
  · rename_i b
    rw[O5] at b
    refine List.nodup_append.2 ⟨h,NS,?_⟩
    intro x d y c e
    simp at c;subst c;subst e
    have:=b x d
    simp at this
def At (A:List av):List Int→List ay→Prop
  | [],[]=>True
  | i :: l,p :: t=>idx A i=some (aW p)∧At A l t
  | _,_=>False
theorem At.ext {A u:List av}:∀ {l:List Int} {t:List ay},At A l t→At (A++u) l t
  | [],[],_=>trivial
  | i :: l,p :: t,h=>⟨IC h.1,h.2.ext⟩
theorem At.snoc {A:List av} {i:Int} {p:ay} (a:idx A i=some (aW p)):∀ {l:List Int} {t:List ay},At A l t→At A (l++[i]) (t++[p])
  | [],[],_=>⟨a,trivial⟩
  | i :: l,p :: t,h=>⟨h.1,h.2.snoc a⟩
theorem At.len {A:List av}:∀ {l:List Int} {t:List ay},At A l t→l.length=t.length
  | [],[],_=>rfl
  | i :: l,p :: t,h=>by simp[h.2.len]
theorem At.get {A:List av}:∀ {l:List Int} {t:List ay},At A l t→∀ (k:Nat) (h1:k < l.length) (a:k < t.length),idx A l[k]=some (aW t[k])
  | [],[],_,k,h1,_=>by simp at h1
  | i :: l,p :: t,h,0,_,_=>h.1
  | i :: l,p :: t,h,k+1,h1,a=>h.2.get k (by simpa using h1) (by simpa using a)
theorem uB:∀ (t:List ay) (as:List av) (p n:List Int) (pp b:List ay),as.length+t.length≤4194304→as.Nodup→At as p pp→At as n b →
    (∃ u,(cg as p n t).1=as++u)∧(cg as p n t).1.Nodup∧At (cg as p n t).1 (cg as p n t).2.1 (pp++t.filter fun x=>!x.Not)∧At (cg as p n t).1 (cg as p n t).2.2 (b++t.filter fun x=>x.Not)
  | [],as,p,n,pp,b,_,c,h1,d=>⟨⟨[],by simp[cg]⟩,c,by simpa[cg] using h1,by simpa[cg] using d⟩
  | x :: t,as,p,n,pp,b,k,c,h1,d=>by
    simp only[gh] at k
    obtain⟨u,hu⟩:=Cd as (aW x)
    have l:=(pW as (aW x)).1
    have f:=C4 (as:=as) (a:=aW x) NR
    have g:=z7 (a:=aW x) c
    have h:At (bZ as (aW x)).2 p pp:=by rw[hu];exact h1.ext
    have i:At (bZ as (aW x)).2 n b:=by rw[hu];exact d.ext
    unfold cg
    cases j:x.Not with
    | true=>
      simp only[if_true,j5,j,hA,fI,if_false]
      obtain⟨⟨w,e⟩,g1,g2,g3⟩:=uB t _ p (n++[(bZ as (aW x)).1]) pp (b++[x]) NR g h (i.snoc f)
      exact⟨⟨u++w,by rw[e,hu,gf]⟩,g1,g2,by simpa using g3⟩
    | false=>
      simp only[fI,if_false,j5,j,hI,if_true]
      obtain⟨⟨w,e⟩,g1,g2,g3⟩:=uB t _ (p++[(bZ as (aW x)).1]) n (pp++[x]) b NR g (h.snoc f) i
      exact⟨⟨u++w,by rw[e,hu,gf]⟩,g1,by simpa using g2,g3⟩
def Ats (A:List av):List aG→List af→Prop
  | [],[]=>True
  | c :: l,r :: t=>(At A c.Pos (r.Pats.filter fun x=>!x.Not)∧At A c.Neg (r.Pats.filter fun x=>x.Not))∧Ats A l t
  | _,_=>False
theorem Ats.ext {A u:List av}:∀ {l:List aG} {t:List af},Ats A l t→Ats (A++u) l t
  | [],[],_=>trivial
  | i :: l,p :: t,h=>⟨⟨h.1.1.ext,h.1.2.ext⟩,h.2.ext⟩
theorem Ats.snoc {A:List av} {c:aG} {r:af} (a:At A c.Pos (r.Pats.filter fun x=>!x.Not)∧At A c.Neg (r.Pats.filter fun x=>x.Not)):∀ {l:List aG} {t:List af},Ats A l t→Ats A (l++[c]) (t++[r])
  | [],[],_=>⟨a,trivial⟩
  | i :: l,p :: t,h=>⟨h.1,h.2.snoc a⟩
theorem Ats.len {A:List av}:∀ {l:List aG} {t:List af},Ats A l t→l.length=t.length
  | [],[],_=>rfl
  | i :: l,p :: t,h=>by simp[h.2.len]
theorem Ats.get {A:List av}:∀ {l:List aG} {t:List af},Ats A l t→∀ (k:Nat) (h1:k < l.length) (a:k < t.length),At A l[k].Pos (t[k].Pats.filter fun x=>!x.Not)∧At A l[k].Neg (t[k].Pats.filter fun x=>x.Not)
  | [],[],_,k,h1,_=>by simp at h1
  | i :: l,p :: t,h,0,_,_=>h.1
  | i :: l,p :: t,h,k+1,h1,a=>h.2.get k (by simpa using h1) (by simpa using a)
theorem wI:∀ (t:List af) (as:List av) (cs:List aG) (a:List af),as.length+o4 t≤4194304→as.Nodup→Ats as cs a →
    (eX as cs t).Alphas.Nodup∧Ats (eX as cs t).Alphas (eX as cs t).Chains (a++t)∧(eX as cs t).Alphas.length≤as.length+o4 t
  | [],as,cs,a,_,b,h=>⟨b,by simpa[eX] using h,by simp[eX,o4]⟩
  | r :: t,as,cs,a,c,b,h=>by
    rw[np] at c
    obtain⟨⟨u,e⟩,g1,g2,g3⟩:=uB r.Pats as [] [] [] [] NR b trivial trivial
    have d:=(sj r.Pats as [] []).1
    have:=wI t (cg as [] [] r.Pats).1 (cs++[⟨(cg as [] [] r.Pats).2.1,(cg as [] [] r.Pats).2.2⟩]) (a++[r]) NR g1 (Ats.snoc ⟨by simpa using g2,by simpa using g3⟩ (by rw[e];exact h.ext))
    unfold eX
    rw[np]
    refine⟨this.1,by simpa using this.2.1,by have:=this.2.2;omega⟩
theorem ri {d:bv} (h:yu d.Rules):(bS d).Alphas.Nodup∧Ats (bS d).Alphas (bS d).Chains d.Rules∧(bS d).Alphas.length≤o4 d.Rules:=by
  have a:=h.2.1
  have:=wI d.Rules [] [] [] (by simp;omega) NS trivial
  unfold bS
  refine⟨this.1,by simpa using this.2.1,by simpa using this.2.2⟩
theorem Iy {A:List av} {l:List aG} {t:List af} (h:Ats A l t):∀ c∈l,∃ r∈t,c.Pos.length+c.Neg.length=r.Pats.length:=by
  intro c b
  obtain⟨k,hk,rfl⟩:=List.getElem_of_mem b
  have a:k < t.length:=by rw[← h.len];exact hk
  have:=h.get k hk a
  exact⟨_,hG a,by rw[this.1.len,this.2.len,xL]⟩
theorem uS {P:av→Prop}:∀ (t:List af) (as:List av) (cs:List aG),(∀ x∈as,P x)→(∀ r∈t,∀ p∈r.Pats,P (aW p))→∀ x∈(eX as cs t).Alphas,P x
  | [],as,cs,h,_=>h
  | r :: t,as,cs,h,a=>by
    unfold eX
    exact uS t _ _ (sG r.Pats as [] [] h (a r NS)) fun q b=>a q (by simp[b])
theorem zS:∀ {l:List af} {r:af},r∈l→r.Pats.length≤o4 l
  | x :: t,r,h=>by
    rw[np]
    rcases hE.1 h with rfl | h
    · omega
    · have:=zS h;omega
theorem tc {d:bv} (h:yu d.Rules):Hk (bS d):=by
  obtain⟨h1,b,j⟩:=ri h
  obtain⟨f,k,g⟩:=h
  refine⟨⟨NR,uS d.Rules [] [] NS fun r a p hp=>uA (g r a p hp)⟩,by rw[b.len];exact f,fun c i=>?_⟩
  obtain⟨r,a,e⟩:=Iy b c i
  have:=zS a
  omega
theorem FG {N:Nat} (c:1099000000000≤N) (as:List av) (cs:List aG) (p:ay) (hp:p.Args.length≤1048576) (f:as.length≤4194304) (h:∀ a∈as,kT a) :
    jr N ⟨as,cs⟩ p=some ((bZ as (aW p)).1,⟨(bZ as (aW p)).2,cs⟩):=by
  unfold jr
  rw[JL c p hp,fz]
  have lp:∀ (n i:Nat),i≤as.length→as.length - i < n→du N ⟨as,cs⟩ (aW p) n i =
      some (match (as.drop i).findIdx? (fun x=>decide (x=aW p)) with | some j=>((i+j:Nat):Int) | none=>(as.length:Int),⟨match (as.drop i).findIdx? (fun x=>decide (x=aW p)) with | some j=>as | none=>as++[aW p],cs⟩):=by
    intro n
    induction n with
    | zero=>intro i _ h;omega
    | succ n d=>
      intro i g k
      by_cases b:i < as.length
      · have c1:decide ((i:Int) < (as.length:Int))=true:=decide_eq_true NR
        rw[gI b,List.findIdx?_cons]
        simp only[du,c1,if_true,ah b,fz,DN c _ _ (h _ (hG b)),wr1 i NR,d (i+1) NR NR]
        by_cases he:as[i]=aW p
        · simp[he]
        · simp only[he,decide_false,fI,if_false]
          cases (as.drop (i+1)).findIdx? (fun x=>decide (x=aW p)) with
          | none=>rfl
          | some j=>simp only[y3];rw[show i+(j+1)=i+1+j by omega]
      · have c1:decide ((i:Int) < (as.length:Int))=false:=decide_eq_false NR
        rw[hz NR]
        simp only[du,c1,fI,if_false,bO (show as.length+[aW p].length≤4294967296 by simp;omega),fz,List.findIdx?_nil]
        have e:IntKind.i64.wrap (((as++[aW p]).length:Int) - 1)=(as.length:Int):=by
          rw[wr (by simp only[gi,gh,gk];omega) (by simp only[gi,gh,gk];omega)];simp only[gi,gh,gk];omega
        rw[e]
  have:=lp N 0 NR NR
  rw[show ((0:Nat):Int)=0 from rfl,hR] at this
  rw[this]
  unfold bZ
  cases as.findIdx? (fun x=>decide (x=aW p)) <;> simp
theorem EC {N:Nat} (c:1099000000000≤N) (d:bv) (h:yu d.Rules):oJ N d=some (bS d):=by
  obtain⟨h1,v,w⟩:=h
  unfold oJ bS
  refine lp' c d.Rules NR (fun n (s:List av × List aG) i=>fH N d n s.1 s.2 i) (fun t s=>some (eX s.1 s.2 t)) (fun s t=>s.1.length+o4 t≤1048576∧s.2.length+t.length≤1048576∧∀ a∈s.1,kT a) ([],[]) ⟨by simpa using v,by simpa using h1,NS⟩ (fun n s i r t g1 g2 g3 g4 g5 g6 g x=>?_) (fun n s i g1 g2 g=>?_)
  · obtain⟨y,i2,i3⟩:=g
    rw[np] at y
    simp only[gh] at i2
    simp only[fH,g5,if_true,g4,fz,eX]
    have key:∀ (as:List av),as.length+r.Pats.length+o4 t≤1048576→(∀ a∈as,kT a)→gD N s.2 (i:Int) (fH N d n) r N as [] [] 0=some (eX (cg as [] [] r.Pats).1 (s.2++[⟨(cg as [] [] r.Pats).2.1,(cg as [] [] r.Pats).2.2⟩]) t):=by
      intro as z A
      refine lp' c r.Pats NR (fun m (u:List av × List Int × List Int) k=>gD N s.2 (i:Int) (fH N d n) r m u.1 u.2.1 u.2.2 k) (fun l u=>some (eX (cg u.1 u.2.2 u.2.1 l).1 (s.2++[⟨(cg u.1 u.2.2 u.2.1 l).2.1,(cg u.1 u.2.2 u.2.1 l).2.2⟩]) t))
        (fun u l=>u.1.length+l.length+o4 t≤1048576∧u.2.1.length+u.2.2.length+l.length≤1048576∧∀ a∈u.1,kT a) (as,[],[]) ⟨z,by simp;omega,A⟩ (fun m u k p l f1 f2 f3 f4 f5 f6 e j=>?_) (fun m u k f1 f2 e=>?_)
      · obtain⟨f,o,b⟩:=e
        simp only[gh] at f o
        have hp:=w r g2 p f2
        have B:=(pW u.1 (aW p)).1
        have q:=si b (uA hp)
        simp only[gD,f5,if_true,f4,fz,FG c u.1 s.2 p hp NR b,f6,cg]
        cases C:p.Not with
        | true=>
          simp only[if_true,bO (show u.2.1.length+[(bZ u.1 (aW p)).1].length≤4294967296 by simp;omega),fz]
          exact j ((bZ u.1 (aW p)).2,u.2.1++[(bZ u.1 (aW p)).1],u.2.2) ⟨by simp only;omega,by simp;omega,q⟩
        | false=>
          simp only[fI,if_false,bO (show u.2.2.length+[(bZ u.1 (aW p)).1].length≤4294967296 by simp;omega),fz]
          exact j ((bZ u.1 (aW p)).2,u.2.1,u.2.2++[(bZ u.1 (aW p)).1]) ⟨by simp only;omega,by simp;omega,q⟩
      · obtain⟨f,o,b⟩:=e
        simp only[gD,f2,fI,if_false,bO (show s.2.length+[(⟨u.2.2,u.2.1⟩:aG)].length≤4294967296 by simp;omega),fz,g6,cg]
        exact x (u.1,s.2++[⟨u.2.2,u.2.1⟩]) ⟨by simp only[gk] at f ⊢;omega,by simp;omega,b⟩
    exact key s.1 NR i3
  · simp only[fH,g2,fI,if_false];rfl
theorem Gk {N:Nat} (e:1099000000000≤N) (x y:aG) (h1:x.Pos.length≤1048576) (f:x.Neg.length≤1048576):fD N x y=some (decide (x=y)):=by
  unfold fD
  simp only[Be e _ _ (show x.Pos.length≤4294967296 by omega),Be e _ _ (show x.Neg.length≤4294967296 by omega),fz,sf]
  obtain⟨a,b⟩:=x;obtain⟨c,d⟩:=y
  simp only[aG.mk.injEq,rr]
theorem CA {N:Nat} (d:1099000000000≤N) (x y:List av) (g:x.length≤1048576) (h:∀ a∈x,kT a):bf N x y (eD N)=some (decide (x=y)):=by
  unfold bf
  by_cases c:x.length=y.length
  · rw[if_neg (by simp;omega)]
    refine (qn (aQ N x y (eD N)) x y c NR (eD N) (fun a f b _=>DN d a b (h a f)) (fun k i=>rfl) N 0 NR NR).trans ?_
    simp
  · rw[if_pos (by simp;omega)]
    have : ¬ x=y:=fun e=>c (by rw[e])
    simp[this]
theorem CM {N:Nat} (f:1099000000000≤N) (x y:List aG) (g:x.length≤1048576) (h:∀ c∈x,c.Pos.length≤1048576∧c.Neg.length≤1048576):be N x y (fD N)=some (decide (x=y)):=by
  unfold be
  by_cases c:x.length=y.length
  · rw[if_neg (by simp;omega)]
    refine (qn (aR N x y (fD N)) x y c NR (fD N) (fun a d b _=>Gk f a b (h a d).1 (h a d).2) (fun k i=>rfl) N 0 NR NR).trans ?_
    simp
  · rw[if_pos (by simp;omega)]
    have : ¬ x=y:=fun e=>c (by rw[e])
    simp[this]
theorem ID {N:Nat} (c:1099000000000≤N) (n:ce) (d:bv) (f:rb d) (e:Hk n):qO N n d=some (iP d && decide (n=bS d)):=by
  unfold qO
  rw[I1 c d f,fz]
  cases g:iP d with
  | false=>simp
  | true=>
    simp only[hA,fI,if_false,EC c d (mT g),fz,CA c _ _ e.1.1 e.1.2,CM c _ _ e.2.1 e.2.2,sf,hV]
    cases h:bS d with
    | mk a b=>cases n with | mk x y=>simp only[ce.mk.injEq,rr]
def qS (c:aG):aP:=⟨List.replicate c.Pos.length ⟨[]⟩⟩
def l5 (p:ce):aN:=⟨List.replicate p.Alphas.length ⟨[]⟩,p.Chains.map qS⟩
theorem GH {N:Nat} (b:1099000000000≤N) (p:ce) (f:p.Alphas.length≤1048576) (d:p.Chains.length≤1048576) (hp:∀ c∈p.Chains,c.Pos.length≤1048576):pt N p=some (l5 p):=by
  unfold pt l5
  rw[Dc _ NR,fz]
  refine (lp' b p.Chains NR (fun n (u:List aP) i=>iG N p (List.replicate p.Alphas.length ⟨[]⟩) n u i) (fun t u=>some ⟨List.replicate p.Alphas.length ⟨[]⟩,u++t.map qS⟩) (fun u t=>u.length+t.length≤1048576) [] (by simpa using d) (fun n u i c t g1 g2 g3 g4 g5 g6 a e=>?_) (fun n u i g1 g2 a=>?_)).trans NS
  · simp only[gh] at a
    have hm:=hp c g2
    simp only[iG,g5,if_true,g4,fz,Dc _ (show c.Pos.length≤4294967296 by omega),bO (show u.length+[(⟨List.replicate c.Pos.length ⟨[]⟩⟩:aP)].length≤4294967296 by simp;omega),g6]
    rw[e _ (by simp;omega)];simp[qS]
  · simp only[iG,g2,fI,if_false];simp
def jN (a:List bN):List Int→List bN→Bool
  | [],_=>true
  | _ :: _,[]=>false
  | x :: t,c :: cs=>(decide (0≤x) && (decide (x < (a.length:Int)) && decide (idx a x=some c))) && jN a t cs
def gp (a:av) (f:aI):Bool:=(seq f.Kind a.Kind && decide ((f.Fields.length:Int)=a.N)) && jN f.Fields a.At a.Consts
theorem Gy {N:Nat} (o:1099000000000≤N) (a:av) (f:aI) (h:a.At.length≤1048576):pB N a f=some (gp a f):=by
  have lp:∀ (n i:Nat),i≤a.At.length→a.At.length - i < n→iD N a f n i=some (jN f.Fields (a.At.drop i) (a.Consts.drop i)):=by
    intro n
    induction n with
    | zero=>intro i _ h;omega
    | succ n l=>
      intro i p q
      simp only[iD]
      by_cases c:i < a.At.length
      · have c1:decide ((i:Int) < (a.At.length:Int))=true:=decide_eq_true NR
        rw[gI c]
        simp only[c1,if_true,ah c,fz,wr1 i NR,l (i+1) NR NR]
        by_cases d:i < a.Consts.length
        · have c2:decide ((a.Consts.length:Int)≤(i:Int))=false:=decide_eq_false NR
          rw[gI d,jN]
          by_cases b:a.At[i] < 0
          · simp[b,c2,show ¬ 0≤a.At[i] by omega]
          · by_cases h1:(f.Fields.length:Int)≤a.At[i]
            · simp[b,h1,show ¬ a.At[i] < (f.Fields.length:Int) by omega]
            · obtain⟨j,e⟩:∃ j:Nat,a.At[i]=(j:Int):=⟨a.At[i].toNat,NR⟩
              have g:j < f.Fields.length:=by omega
              rw[e]
              rw[e] at b h1
              simp only[b,h1,c2,decide_false,fI,if_false,fz,ah g,ah d,iw,Option.some.injEq]
              by_cases he:f.Fields[j]=a.Consts[i] <;> simp[he,g]
        · have c2:decide ((a.Consts.length:Int)≤(i:Int))=true:=decide_eq_true NR
          rw[hz (show a.Consts.length≤i by omega),jN]
          by_cases b:a.At[i] < 0
          · simp[b,c2]
          · by_cases h1:(f.Fields.length:Int)≤a.At[i] <;> simp[b,h1,show a.Consts.length≤i by omega]
      · have c1:decide ((i:Int) < (a.At.length:Int))=false:=decide_eq_false NR
        rw[hz (show a.At.length≤i by omega)]
        simp only[c1,fI,if_false,jN]
  have k:=lp N 0 NR NR
  rw[hR,hR,show ((0:Nat):Int)=0 from rfl] at k
  unfold pB gp
  rw[k]
  cases seq f.Kind a.Kind <;> by_cases m:(f.Fields.length:Int)=a.N <;> simp[m]
def neg (l:List ay):List ay:=l.filter fun p=>p.Not
def okB (xs:List ag) (ps:List ay) (r:List Int):List au × Bool:=bd xs (ps.take r.length) r []
def fj (xs:List ag) (ns:List ay) (l:List au):List Int:=ns.map fun p=>(sL p l xs:Int)
def o2 (xs:List ag) (ps ns:List ay) (row:List Int) (id:Int):List ao:=
  if (okB xs ps (row++[id])).2=true then [⟨row++[id],if row.length+1=ps.length then fj xs ns (okB xs ps (row++[id])).1 else []⟩] else []
def gw (xs:List ag) (ps ns:List ay) (row ids:List Int):List ao:=ids.flatMap (o2 xs ps ns row)
def iS (xs:List ag) (ps ns:List ay) (id:Int) (k:Nat) (B F:List ao) (A:List Int):List ao:=
  if k=0 then gw xs ps ns [] [id] else B.flatMap (fun t=>gw xs ps ns t.Ids [id])++F.flatMap (fun t=>gw xs ps ns t.Ids A)
def m8 (xs:List ag) (ps ns:List ay) (id:Int) (A:Nat→List Int):Nat→List aq→List ao→List ao→List aq
  | _,[],_,_=>[]
  | k,L :: Ls,B,F=>⟨L.Toks++iS xs ps ns id k B F (A k)⟩ :: m8 xs ps ns id A (k+1) Ls L.Toks (iS xs ps ns id k B F (A k))
def kX (f:aI) (l:List au) (a:Int):List ay→List Int→List Int
  | p :: ns,x :: h=>(if (bw p f l).2=true then IntKind.i64.wrap (x+a) else x) :: kX f l a ns h
  | _,h=>h
def jO (xs:List ag) (ps ns:List ay) (f:aI) (a:Int) (b:List ao):List ao:=
  b.map fun t=>if (okB xs ps t.Ids).2=true then ⟨t.Ids,kX f (okB xs ps t.Ids).1 a ns t.Hits⟩ else t
def uk (as:List bF) (c:aG) (k:Nat):List Int:=match c.Pos[k]? with
  | some a=>(match idx as a with
    | some i=>i.L
    | none=>[])
  | none=>[]
def fO (xs:List ag) (ps ns:List ay) (f:aI) (a:Int) (row:aP):aP:=match row.Levels[row.Levels.length - 1]? with
  | some L=>⟨row.Levels.set (row.Levels.length - 1) ⟨jO xs ps ns f a L.Toks⟩⟩
  | none=>row
def oS (xs:List ag) (as:List bF) (f:aI) (id:Int) (r:af) (c:aG) (row:aP):aP:=
  ⟨m8 xs (pos r.Pats) (neg r.Pats) id (uk as c) 0 (fO xs (pos r.Pats) (neg r.Pats) f 1 row).Levels [] []⟩
def om (g:af→aG→aP→aP):List af→List aG→List aP→List aP
  | r :: a,c :: cs,w :: ws=>g r c w :: om g a cs ws
  | _,_,ws=>ws
def d5 (f:aI) (id:Int):List av→List bF→List bF
  | a :: as,i :: is=>(if gp a f=true then ⟨i.L++[id]⟩ else i) :: d5 f id as is
  | _,is=>is
def yL (d:bv) (n:ce) (m:aN) (s:ac) (id:Int):aN:=
  ⟨d5 (aF s.Items id).1 id n.Alphas m.Alphas,om (oS s.Items (d5 (aF s.Items id).1 id n.Alphas m.Alphas) (aF s.Items id).1 id) d.Rules n.Chains m.Rules⟩
theorem qM (xs:List ag) (ps ns:List ay) (row:List Int):∀ (ids:List Int),(gw xs ps ns row ids).length≤ids.length
  | []=>by simp[gw]
  | v :: ids=>by
    have h1:=qM xs ps ns row ids
    unfold gw at h1 ⊢
    rw[ks,gi,gh]
    have a:(o2 xs ps ns row v).length≤1:=by unfold o2;split <;> simp
    omega
theorem rn (xs:List ag) (ps ns:List ay) (ids:List Int):∀ (B:List ao),(B.flatMap fun t=>gw xs ps ns t.Ids ids).length≤B.length*ids.length
  | []=>by simp
  | t :: B=>by
    have h1:=rn xs ps ns ids B
    have a:=qM xs ps ns t.Ids ids
    rw[ks,gi,gh,hB];omega
theorem vT {xs:List ag} {ps ns:List ay} {row ids:List Int}:∀ t∈gw xs ps ns row ids,t.Ids.length=row.length+1∧t.Hits.length≤ns.length:=by
  intro t a
  unfold gw at a
  obtain⟨v,_,h⟩:=ix.1 a
  unfold o2 at h
  split at h
  · simp only[List.mem_singleton] at h
    subst h
    refine⟨NS,?_⟩
    simp only
    split
    · simp[fj]
    · simp
  · cases h
theorem wc (f:aI) (l:List au) (b:Int):∀ (ns:List ay) (h:List Int),(kX f l b ns h).length=h.length
  | p :: ns,x :: h=>by simp[kX,wc f l b ns h]
  | [],h=>by simp[kX]
  | p :: ns,[]=>by simp[kX]
theorem tt {xs:List ag} {ps ns:List ay} {f:aI} {b:Int} (a:List ao):(jO xs ps ns f b a).map (·.Ids)=a.map (·.Ids):=by
  unfold jO
  rw[List.map_map]
  apply List.map_congr_left
  intro t _
  simp only[Function.comp]
  split <;> rfl
theorem wh {xs:List ag} {ps ns:List ay} {f:aI} {b:Int} (a:List ao):(jO xs ps ns f b a).length=a.length:=by simp[jO]
theorem rY (xs:List ag) (ps:List ay) (ids:List Int):(okB xs ps ids).1.length≤dm ps:=by
  have h1:=ut (xs:=xs) (ps.take ids.length) ids []
  have a:dm (ps.take ids.length)≤dm ps:=rO _ _
  unfold okB
  simp at h1
  omega
theorem ym {N:Nat} (b:1099000000000≤N) (s:ac) (v:Int) (k:s.Items.length≤1048576) (c:∀ x∈s.Items,x.F.Fields.length≤1048576):lM N s v=some (aF s.Items v):=by
  unfold lM
  refine lp0 b s.Items NR (gP N s v) (fun t=>some (aF t v)) (fun n i x t h1 a l d f g j=>?_) (fun n i h1 a=>?_)
  · have e:iH N x.F=some x.F:=by
      unfold iH
      rw[ft (show x.F.Fields.length≤4294967296 by have:=c x a;omega)];rfl
    simp only[gP,f,if_true,d,fz,g,j,e,ky]
    by_cases h:x.Id=v <;> simp[h]
  · simp only[gP,a,fI,if_false];rfl
structure SzS (r:af) (s:ac):Prop where
  pl:r.Pats.length≤1048576
  sa:dm r.Pats≤1048576
  pa:∀ p∈r.Pats,p.Args.length≤1048576
  sl:s.Items.length≤1048576
  fl:∀ x∈s.Items,x.F.Fields.length≤1048576
  fp:pos r.Pats=r.Pats.take (ak r.Pats)
theorem AB {N:Nat} (c:1099000000000≤N) (r:af) (s:ac) (a:SzS r s) (ids:List Int) (o:ids.length≤ak r.Pats) :
    ∃ l,jo N r s ids=some (l,(okB s.Items (pos r.Pats) ids).2)∧((okB s.Items (pos r.Pats) ids).2=true→l=(okB s.Items (pos r.Pats) ids).1)∧l.length≤1048576:=by
  have p:=et r.Pats
  have t:=a.pl
  unfold jo
  have lp:∀ (n i:Nat) (l:List au),i≤ids.length→ids.length - i < n→l.length+dm (r.Pats.drop i)≤1048576 →
      ∃ q,f7 N r s ids n l i=some (q,(bd s.Items ((r.Pats.take ids.length).drop i) (ids.drop i) l).2)∧((bd s.Items ((r.Pats.take ids.length).drop i) (ids.drop i) l).2=true→q=(bd s.Items ((r.Pats.take ids.length).drop i) (ids.drop i) l).1)∧q.length≤1048576:=by
    intro n
    induction n with
    | zero=>intro i _ _ h;omega
    | succ n j=>
      intro i l h1 u d
      by_cases f:i < ids.length
      · have c1:decide ((i:Int) < (ids.length:Int))=true:=decide_eq_true NR
        have b:i < r.Pats.length:=by omega
        have k:i < (r.Pats.take ids.length).length:=by rw[my];omega
        rw[gI b] at d
        rw[eU] at d
        have v:=kF r.Pats[i] (aF s.Items ids[i]).1 l
        rw[gI f,gI k,bd,List.getElem_take]
        simp only[f7,c1,if_true,ah f,fz,ym c s _ a.sl a.fl,lF,ah b]
        rw[show (⟨(aF s.Items ids[i]).1.Kind,(aF s.Items ids[i]).1.Fields⟩:aI)=(aF s.Items ids[i]).1 from rfl,Eb c r.Pats[i] _ l (a.pa _ (hG b)) (show l.length≤2147483648 by omega)]
        simp only[fz,wr1 i NR]
        cases (aF s.Items ids[i]).2 with
        | false=>exact⟨l,NS,NS,NR⟩
        | true=>
          cases hm:(bw r.Pats[i] (aF s.Items ids[i]).1 l).2 with
          | false=>exact⟨l,NS,NS,NR⟩
          | true=>
            simp only[hA,fI,if_false,and_self,if_true,fz]
            exact j (i+1) _ NR NR NR
      · have c1:decide ((i:Int) < (ids.length:Int))=false:=decide_eq_false NR
        simp only[f7,c1,fI,if_false]
        rw[hz (show (r.Pats.take ids.length).length≤i by rw[my];omega),hz (show ids.length≤i by omega)]
        exact⟨l,by simp[bd],by simp[bd],NR⟩
  obtain⟨q,h1,g,m⟩:=lp N 0 [] NR NR (by simpa using a.sa)
  have e:(pos r.Pats).take ids.length=r.Pats.take ids.length:=by rw[a.fp,List.take_take];congr 1;omega
  unfold okB
  rw[e]
  simp only[hR] at h1 g
  exact⟨q,h1,g,m⟩
def oO (ns:List ay) (f:aI) (l:List au):List Int:=ns.map fun p=>if (bw p f l).2=true then 1 else 0
theorem Kg {N:Nat} (b:1099000000000≤N) (r:af) (f:aI) (l:List au) (hp:r.Pats.length≤1048576) (pa:∀ p∈r.Pats,p.Args.length≤1048576) (e:l.length≤1048576):mS N r f l=some (oO (neg r.Pats) f l):=by
  unfold mS
  refine (lp' b r.Pats NR (fun n (u:List Int) i=>ef N r f l n u i) (fun t u=>some (u++oO (neg t) f l)) (fun u t=>u.length+t.length≤1048576) [] (by simpa using hp) (fun n u i p t g1 g2 g3 g4 g5 g6 c a=>?_) (fun n u i g1 g2 c=>?_)).trans NS
  · simp only[gh] at c
    have d:neg (p :: t)=if p.Not then p :: neg t else neg t:=by unfold neg;rw[j5]
    simp only[ef,g5,if_true,g4,fz,Eb b p f l (pa p g2) (show l.length≤2147483648 by omega)]
    rw[d]
    cases g:p.Not with
    | false=>simp only[fI,if_false,g6];exact a u NR
    | true=>
      simp only[if_true]
      cases hm:(bw p f l).2 with
      | true=>
        simp only[if_true,iL,bO (show u.length+[(1:Int)].length≤4294967296 by simp;omega),fz,g6]
        rw[a _ (by simp;omega)];simp[oO,hm]
      | false=>
        simp only[fI,if_false,iL,bO (show u.length+[(0:Int)].length≤4294967296 by simp;omega),fz,g6]
        rw[a _ (by simp;omega)];simp[oO,hm]
  · simp only[ef,g2,fI,if_false];simp[neg,oO]
def kW (xs:List ag) (ps:List ay) (row:List Int) (id:Int):List ao:=if (okB xs ps (row++[id])).2=true then [⟨row++[id],[]⟩] else []
theorem DD {N:Nat} (b:1099000000000≤N) (r:af) (s:ac) (a:SzS r s) (out:List ao) (row:List Int) (id:Int) (d:row.length+1≤ak r.Pats) (c:out.length+1≤4294967296) :
    kl N out r s row id=some (out++kW s.Items (pos r.Pats) row id):=by
  have e:=et r.Pats
  have f:=a.pl
  obtain⟨l,h1,g,h⟩:=AB b r s a (row++[id]) (by simp;omega)
  unfold kl kW
  simp only[ft (show row.length≤4294967296 by omega),fz,bO (show row.length+[id].length≤4294967296 by simp;omega),h1]
  cases (okB s.Items (pos r.Pats) (row++[id])).2 with
  | false=>simp
  | true=>simp[bO (show out.length+[(⟨row++[id],[]⟩:ao)].length≤4294967296 by simpa using c)]
def Gh:List Int→List Int→List Int
  | x :: a,y :: b=>(x+y) :: Gh a b
  | a,_=>a
theorem Ge (ns:List ay) (l:List au) (xs:List ag) (x:ag):Gh (fj xs ns l) (oO ns x.F l)=fj (xs++[x]) ns l:=by
  induction ns with
  | nil=>rfl
  | cons p ns a=>
    unfold fj oO at a ⊢
    simp only[List.map_cons,Gh,a]
    congr 1
    unfold sL
    rw[List.countP_append]
    cases hm:(bw p x.F l).2 with
    | true=>simp[hm]
    | false=>simp[hm]
theorem zV {N:Nat} (s2:Int) (K:List Int→Int→Option ao) (e:List Int) (k:e.length≤1048576) (j:∀ y∈e,0≤y∧y≤1):∀ (b:List Int) (n:Nat) (c d a:List Int),b.length < n→e=c++b→d.length=c.length→a.length=b.length→(∀ x∈a,0≤x∧x≤1048576) →
    fa N s2 K e n (d++a) (c.length:Int)=K (d++Gh a b) (IntKind.i64.wrap (s2+1))
  | [],n,c,d,a,h,h1,f,g,i=>by
    obtain⟨n,rfl⟩:∃ m,n=m+1:=⟨n - 1,by simp at h;omega⟩
    have c1:decide ((c.length:Int) < (e.length:Int))=false:=decide_eq_false (by rw[h1];simp)
    have:a=[]:=List.length_eq_zero_iff.1 (by simpa using g)
    subst this
    simp only[fa,c1,fI,if_false,Gh]
  | y :: b,n,c,d,[],h,h1,f,g,i=>by simp at g
  | y :: b,n,c,d,x :: a,h,h1,f,g,i=>by
    obtain⟨n,rfl⟩:∃ m,n=m+1:=⟨n - 1,NR⟩
    simp only[gh] at h g
    have s:e.length=c.length+(b.length+1):=by rw[h1];simp
    have c1:decide ((c.length:Int) < (e.length:Int))=true:=decide_eq_true NR
    have l:idx e (c.length:Int)=some y:=by rw[h1,nE];simp
    have o:idx (d++x :: a) (c.length:Int)=some x:=by rw[← f,nE];simp
    have t:=i x NS
    have u:=j y (by rw[h1];simp)
    have p:IntKind.i64.wrap (x+y)=x+y:=wr NR NR
    have q:(d++x :: a).set ((c.length:Int)).toNat (x+y)=(d++[x+y])++a:=by
      rw[hW,← f,qu _ _ (hn _),rs,LL,gf];rfl
    simp only[fa,c1,if_true,l,o,fz,p,q,wr1 c.length NR]
    have:=zV (N:=N) s2 K e k j b n (c++[y]) (d++[x+y]) a NR (by rw[h1];simp) (by simp[f]) NR (fun z r=>i z (by simp[r]))
    simp only[gi,gh,gk,ho] at this
    rw[this,Gh]
    simp
theorem Gl {N:Nat} (d:1099000000000≤N) (r:af) (s:ac) (a:SzS r s) (t:ao) (j:t.Ids.length≤ak r.Pats) (k:(okB s.Items (pos r.Pats) t.Ids).2=true) :
    mL N r s t=some ⟨t.Ids,fj s.Items (neg r.Pats) (okB s.Items (pos r.Pats) t.Ids).1⟩:=by
  have B:=et r.Pats
  have C:=a.pl
  have D:=a.sl
  obtain⟨l,h1,f,o⟩:=AB d r s a t.Ids j
  obtain rfl:=f k
  have E:=xL r.Pats
  have F:=pq r.Pats
  have q:(neg r.Pats).length=r.Pats.length - ak r.Pats:=by unfold neg;omega
  have u:IntKind.i64.wrap ((r.Pats.length:Int) - (ak r.Pats:Int))=((r.Pats.length - ak r.Pats:Nat):Int):=by
    rw[show ((r.Pats.length:Int) - (ak r.Pats:Int))=((r.Pats.length - ak r.Pats:Nat):Int) by omega]
    exact wr NR NR
  unfold mL
  rw[h1,fz,DI d r a.pl,fz,u,Dc _ NR,fz]
  have v:List.replicate (r.Pats.length - ak r.Pats) (0:Int)=fj [] (neg r.Pats) (okB s.Items (pos r.Pats) t.Ids).1:=by
    rw[← q]
    unfold fj sL
    apply List.ext_getElem
    · simp
    · intro i h1 f;simp
  rw[v]
  have lp:∀ (b:List ag) (n:Nat) (dz:List ag),b.length < n→s.Items=dz++b →
      dK N r s t ((okB s.Items (pos r.Pats) t.Ids).1,(okB s.Items (pos r.Pats) t.Ids).2) n (fj dz (neg r.Pats) (okB s.Items (pos r.Pats) t.Ids).1) (dz.length:Int)=some ⟨t.Ids,fj s.Items (neg r.Pats) (okB s.Items (pos r.Pats) t.Ids).1⟩:=by
    intro b
    induction b with
    | nil=>
      intro n dz e he
      obtain⟨n,rfl⟩:∃ m,n=m+1:=⟨n - 1,by simp at e;omega⟩
      have g:s.Items=dz:=by simpa using he
      have c1:decide ((dz.length:Int) < (s.Items.length:Int))=false:=decide_eq_false (by rw[g];simp)
      simp only[dK,c1,fI,if_false]
      rw[← g]
    | cons z b w=>
      intro n dz e he
      obtain⟨n,rfl⟩:∃ m,n=m+1:=⟨n - 1,NR⟩
      simp only[gh] at e
      have G:s.Items.length=dz.length+(b.length+1):=by rw[he];simp
      have c1:decide ((dz.length:Int) < (s.Items.length:Int))=true:=decide_eq_true NR
      have x:idx s.Items (dz.length:Int)=some z:=by rw[he,nE];simp
      simp only[dK,c1,if_true,x,fz,Kg d r z.F _ a.pl a.pa o]
      have h:=zV (N:=N) (dz.length:Int) (dK N r s t ((okB s.Items (pos r.Pats) t.Ids).1,(okB s.Items (pos r.Pats) t.Ids).2) n) (oO (neg r.Pats) z.F (okB s.Items (pos r.Pats) t.Ids).1) (by simp[oO];omega)
        (fun y c=>by unfold oO at c;obtain⟨p,_,rfl⟩:=hC.1 c;split <;> omega) (oO (neg r.Pats) z.F (okB s.Items (pos r.Pats) t.Ids).1) N [] [] (fj dz (neg r.Pats) (okB s.Items (pos r.Pats) t.Ids).1) (by simp[oO];omega) rfl rfl (by simp[oO,fj])
        (fun y c=>by unfold fj at c;obtain⟨p,_,rfl⟩:=hC.1 c;have:=xn p (okB s.Items (pos r.Pats) t.Ids).1 dz;omega)
      simp only[ha,gk,oi] at h
      have A:fa N (dz.length:Int) (dK N r s t ((okB s.Items (pos r.Pats) t.Ids).1,(okB s.Items (pos r.Pats) t.Ids).2) n) (oO (neg r.Pats) z.F (okB s.Items (pos r.Pats) t.Ids).1) N (fj dz (neg r.Pats) (okB s.Items (pos r.Pats) t.Ids).1) 0=_:=h
      rw[A,Ge,wr1 dz.length NR]
      have:=w n (dz++[z]) NR (by rw[he];simp)
      simp only[gi,gh,gk,ho] at this
      exact this
  have:=lp s.Items N [] NR rfl
  simpa using this
theorem GS {N:Nat} (c:1099000000000≤N) (p:List au) (n:ByteArray) (d:p.length≤4294967296):nf N p n=some (vg p n):=by
  unfold nf
  have:∀ (k i:Nat),i≤p.length→p.length - i < k→iM N p n k i=some (vg (p.drop i) n):=by
    intro k
    induction k with
    | zero=>intro i _ h;omega
    | succ k b=>
      intro i e hk
      simp only[iM]
      by_cases a:i < p.length
      · have c1:decide ((i:Int) < (p.length:Int))=true:=decide_eq_true NR
        rw[gI a,zM]
        simp only[c1,if_true,ah a,fz,wr1 i NR,b (i+1) NR NR]
        cases seq p[i].Name n <;> rfl
      · have c1:decide ((i:Int) < (p.length:Int))=false:=decide_eq_false NR
        simp only[c1,fI,if_false]
        rw[hz NR];rfl
  exact this N 0 NR NR
theorem Bi {N:Nat} (k:1099000000000≤N) (p:ay) (f:aI) (b:List au) (he:p.Args.length=f.Fields.length) (m:p.Args.length≤1048576) (o:b.length≤2147483648):∀ (n i:Nat) (s:List au),i≤p.Args.length→p.Args.length - i < n→s.length≤2147483648+i →
    em N p f b n s i=some (ey b (p.Args.drop i) (f.Fields.drop i) s):=by
  intro n
  induction n with
  | zero=>intro i s _ h;omega
  | succ n d=>
    intro i s q r t
    simp only[em]
    by_cases e:i < p.Args.length
    · have c1:decide ((i:Int) < (p.Args.length:Int))=true:=decide_eq_true NR
      have g:i < f.Fields.length:=by omega
      rw[gI e,gI g,ey]
      simp only[c1,if_true,ah e,ah g,fz,GS k s _ (show s.length≤4294967296 by omega),bt,ft (show b.length≤4294967296 by omega),bO (show s.length+[(⟨p.Args[i].S,f.Fields[i]⟩:au)].length≤4294967296 by simp;omega),wr1 i NR,sf,orS]
      have c:=d (i+1) s NR NR NR
      have l:=d (i+1) (s++[⟨p.Args[i].S,f.Fields[i]⟩]) NR NR (by simp;omega)
      by_cases j:p.Args[i].K=2
      · have a : ¬ p.Args[i].K=1:=by omega
        simp only[j,a,decide_true,decide_false,if_true,if_false,hV,q0,vi,fI,fz,show ¬ (2:Int)=1 by omega]
        cases bQ p.Args[i].V f.Fields[i] with
        | true=>simpa using c
        | false=>simp
      · by_cases a:p.Args[i].K=1
        · simp only[a,decide_true,decide_false,if_true,if_false,hV,q0,zx,fI,fz,show ¬ (1:Int)=2 by omega]
          cases (vg s p.Args[i].S).2 with
          | true=>
            simp only[if_true,hA,hV,fI,if_false]
            cases bQ (vg s p.Args[i].S).1 f.Fields[i] with
            | true=>simpa using c
            | false=>simp
          | false=>simpa using l
        · simp only[a,j,decide_false,if_false,q0,zx,vi,fI,fz]
          simpa using c
    · have c1:decide ((i:Int) < (p.Args.length:Int))=false:=decide_eq_false NR
      simp only[c1,fI,if_false]
      rw[hz NR]
      rfl
theorem Gb (a b:ByteArray):seq a b=seq b a:=by rw[kZ,kZ];simp[eq_comm]
theorem vq {N:Nat} (c:1099000000000≤N) (p:ay) (f:aI) (b:List au) (d:p.Args.length≤1048576) (e:b.length≤2147483648):iy N p f b=some (bw p f b):=by
  unfold iy bw bt
  rw[ft NR,Gb f.Kind p.Kind]
  simp only[fz,orS]
  cases hk:seq p.Kind f.Kind with
  | false=>simp
  | true=>
    by_cases he:p.Args.length=f.Fields.length
    · have a:decide ((f.Fields.length:Int)=(p.Args.length:Int))=true:=decide_eq_true NR
      have:=(Bi c p f b he d e N 0 b NR NR NR)
      simp only[a,he,hA,vi,fI,if_false,true_and,if_true]
      simpa using this
    · have a:decide ((f.Fields.length:Int)=(p.Args.length:Int))=false:=decide_eq_false NR
      simp[a,he]
theorem sH {N:Nat} (b:1099000000000≤N) (s:ac) (v:Int) (k:s.Items.length≤1048576) (c:∀ x∈s.Items,x.F.Fields.length≤1048576):kx N s v=some (aF s.Items v):=by
  unfold kx
  refine lp0 b s.Items NR (gN N s v) (fun t=>some (aF t v)) (fun n i x t h1 a l d f g j=>?_) (fun n i h1 a=>?_)
  · have e:gA N x.F=some x.F:=by
      unfold gA ez
      rw[ft (show x.F.Fields.length≤4294967296 by have:=c x a;omega)];rfl
    simp only[gN,f,if_true,d,fz,g,j,e,ky]
    by_cases h:x.Id=v <;> simp[h]
  · simp only[gN,a,fI,if_false];rfl
theorem Bu {N:Nat} (b:1099000000000≤N) (ps:List ay) (s:ac) (ids:List Int) (e:dm ps≤1048576) (hp:∀ p∈ps,p.Args.length≤1048576) (f:s.Items.length≤1048576) (g:∀ x∈s.Items,x.F.Fields.length≤1048576) (m:ids.length≤1048576) (he:ids.length≤ps.length) :
    ik N ps s ids=some (bd s.Items (ps.take ids.length) ids []):=by
  unfold ik
  have lp:∀ (n i:Nat) (l:List au),i≤ids.length→ids.length - i < n→l.length+dm (ps.drop i)≤1048576→dX N ps s ids n l i=some (bd s.Items ((ps.take ids.length).drop i) (ids.drop i) l):=by
    intro n
    induction n with
    | zero=>intro i _ _ h;omega
    | succ n j=>
      intro i l h1 o c
      by_cases d:i < ids.length
      · have c1:decide ((i:Int) < (ids.length:Int))=true:=decide_eq_true NR
        have a:i < ps.length:=by omega
        have k:i < (ps.take ids.length).length:=by rw[my];omega
        rw[gI a] at c
        rw[eU] at c
        have q:=kF ps[i] (aF s.Items ids[i]).1 l
        rw[gI d,gI k,bd,List.getElem_take]
        simp only[dX,c1,if_true,ah d,ah a,fz,sH b s _ f g,vq b ps[i] _ l (hp _ (hG a)) (show l.length≤2147483648 by omega),wr1 i NR]
        cases (aF s.Items ids[i]).2 with
        | false=>simp
        | true=>
          cases (bw ps[i] (aF s.Items ids[i]).1 l).2 with
          | false=>simp
          | true=>
            simp only[hA,fI,if_false,and_self,if_true]
            exact j (i+1) _ NR NR NR
      · have c1:decide ((i:Int) < (ids.length:Int))=false:=decide_eq_false NR
        simp only[dX,c1,fI,if_false]
        rw[hz (show (ps.take ids.length).length≤i by rw[my];omega),hz (show ids.length≤i by omega)];rfl
  have:=lp N 0 [] NR NR (by simpa using e)
  simpa using this
theorem Ha {N:Nat} (b:1099000000000≤N) (p:ay) (s:ac) (l:List au) (hp:p.Args.length≤1048576) (j:s.Items.length≤1048576) (e:l.length≤2147483648):nu N p s l=some (sL p l s.Items:Int):=by
  unfold nu
  have:=lp' b s.Items NR (fE N p s l) (fun t k=>some (k+(sL p l t:Int))) (fun k t=>0≤k∧k+t.length≤1048576) (0:Int) (by simp;omega) (fun n k i x t h1 c m f g h d a=>by
    simp only[gh] at d
    simp only[fE,g,if_true,f,fz,vq b p x.F l hp e,h]
    unfold sL at a ⊢
    rw[List.countP_cons]
    cases (bw p x.F l).2 with
    | true=>
      rw[wr (n:=k+1) NR NR]
      simp only[if_true,a (k+1) NR];congr 1;omega
    | false=>simpa using a k NR) (fun n k i h1 c d=>by simp only[fE,c,fI,if_false,sL];simp)
  simpa using this
structure SzG (g:dl):Prop where
  pl:g.pos.length≤1048576
  sa:dm g.pos≤1048576
  pa:∀ p∈g.pos,p.Args.length≤1048576
  nl:g.neg.length≤1048576
  na:∀ p∈g.neg,p.Args.length≤1048576
  sl:g.s.Items.length≤1048576
  fl:∀ x∈g.s.Items,x.F.Fields.length≤1048576
theorem FN {N:Nat} (d:1099000000000≤N) (g:dl) (b:SzG g) (s1:List ao) (s2:Int) (K:List ao→Int→Option (List ao)) (c:List Int) (a:List au × Bool) (f:a.1.length≤2147483648) :
    cU N g s1 s2 K c a N [] 0=cV N s1 s2 K c (fj g.s.Items g.neg a.1):=by
  have j:=b.nl
  refine (lp' d g.neg NR (fun n (u:List Int) i=>cU N g s1 s2 K c a n u i) (fun t u=>cV N s1 s2 K c (u++fj g.s.Items t a.1)) (fun u t=>u.length+t.length≤1048576) [] (by simpa using b.nl) (fun n u i p t g1 g2 g3 g4 g5 g6 e h=>?_) (fun n u i g1 g2 e=>?_)).trans NS
  · simp only[gh] at e
    simp only[cU,g5,if_true,g4,fz,Ha d p g.s a.1 (b.na p g2) b.sl f,bO (show u.length+[((sL p a.1 g.s.Items:Nat):Int)].length≤4294967296 by simp;omega),g6]
    rw[h _ (by simp;omega)]
    simp[fj]
  · simp only[cU,g2,fI,if_false];simp[fj]
theorem yc {N:Nat} (d:1099000000000≤N) (g:dl) (a:SzG g) (row ids:List Int) (o:row.length+1≤g.pos.length) (h:ids.length≤4294967296) :
    eM N g row ids=some (gw g.s.Items g.pos g.neg row ids):=by
  have p:=a.pl
  unfold eM
  refine (lp' d ids h (fun n (u:List ao) i=>bU N g row ids n u i) (fun t u=>some (u++gw g.s.Items g.pos g.neg row t)) (fun u t=>u.length+t.length≤4294967296) [] (by simpa using h) (fun n u i v t g1 g2 g3 g4 g5 g6 j e=>?_) (fun n u i g1 g2 j=>?_)).trans NS
  · simp only[gh] at j
    have k:(row++[v]).length=row.length+1:=by simp
    have q:=rY g.s.Items g.pos (row++[v])
    have r:=a.sa
    have m:bd g.s.Items (g.pos.take (row++[v]).length) (row++[v]) []=okB g.s.Items g.pos (row++[v]):=rfl
    simp only[bU,g5,if_true,g4,fz,bh,ft (show row.length≤4294967296 by omega),bO (show row.length+[v].length≤4294967296 by simp;omega),
      Bu d g.pos g.s (row++[v]) a.sa a.pa a.sl a.fl NR NR,m,gw,ks]
    have s:(t.flatMap fun b=>o2 g.s.Items g.pos g.neg row b)=gw g.s.Items g.pos g.neg row t:=rfl
    cases f:(okB g.s.Items g.pos (row++[v])).2 with
    | false=>
      have c:o2 g.s.Items g.pos g.neg row v=[]:=by unfold o2;rw[f];simp
      simp only[hI,if_true,g6,c,ha]
      exact e u NR
    | true=>
      simp only[hA,fI,if_false]
      by_cases l:row.length+1=g.pos.length
      · have c1:decide (((row++[v]).length:Int)=(g.pos.length:Int))=true:=decide_eq_true (by rw[k];omega)
        have c:o2 g.s.Items g.pos g.neg row v=[⟨row++[v],fj g.s.Items g.neg (okB g.s.Items g.pos (row++[v])).1⟩]:=by unfold o2;rw[f,if_pos rfl,if_pos l]
        simp only[c1,if_true,FN d g a u _ _ _ _ (show (okB g.s.Items g.pos (row++[v])).1.length≤2147483648 by omega),cV,bO (show u.length+[(⟨row++[v],fj g.s.Items g.neg (okB g.s.Items g.pos (row++[v])).1⟩:ao)].length≤4294967296 by simp;omega),fz,g6,c]
        rw[e _ (by simp;omega),gf];rfl
      · have c1:decide (((row++[v]).length:Int)=(g.pos.length:Int))=false:=decide_eq_false (by rw[k];omega)
        have c:o2 g.s.Items g.pos g.neg row v=[⟨row++[v],[]⟩]:=by unfold o2;rw[f,if_pos rfl,if_neg l]
        simp only[c1,fI,if_false,cV,bO (show u.length+[(⟨row++[v],[]⟩:ao)].length≤4294967296 by simp;omega),fz,g6,c]
        rw[e _ (by simp;omega),gf];rfl
  · simp only[bU,g2,fI,if_false];simp[gw]
def uM (A:Nat→Nat):Nat→List Nat→Nat→Nat→Prop
  | _,[],_,_=>True
  | k,l :: ls,b,f=>(if k=0 then 1 else b+f*A k)+l≤4294967296∧uM A (k+1) ls l (if k=0 then 1 else b+f*A k)
theorem w8 {A:Nat→Nat}:∀ {ls:List Nat} {k b f a c:Nat},uM A k ls b f→a≤b→c≤f→uM A k ls a c
  | [],_,_,_,_,_,_,_,_=>trivial
  | l :: ls,k,b,f,a,c,h,d,e=>by
    have hm:(if k=0 then 1 else a+c*A k)≤(if k=0 then 1 else b+f*A k):=by
      split
      · exact hn _
      · exact Nat.add_le_add d (Nat.mul_le_mul_right _ e)
    exact⟨Nat.le_trans (Nat.add_le_add_right hm l) h.1,w8 h.2 (hn _) hm⟩
theorem vY (xs:List ag) (ps ns:List ay) (id:Int) (k:Nat) (B F:List ao) (A:List Int):(iS xs ps ns id k B F A).length≤(if k=0 then 1 else B.length+F.length*A.length):=by
  unfold iS
  split
  · exact qM xs ps ns [] [id]
  · have h1:=rn xs ps ns [id] B
    have a:=rn xs ps ns A F
    simp only[gi,gh,gk,ho,Nat.mul_one] at h1 a ⊢
    omega
theorem zL {xs:List ag} {ps ns:List ay} {id:Int} {k:Nat} {B F:List ao} {A:List Int} (b:∀ t∈B,t.Ids.length=k) (c:∀ t∈F,t.Ids.length=k):∀ t∈iS xs ps ns id k B F A,t.Ids.length=k+1:=by
  intro t a
  unfold iS at a
  split at a
  · rename_i hk
    rw[(vT t a).1,hk];rfl
  · rcases gb.1 a with h | h
    · obtain⟨u,hu,h⟩:=ix.1 h
      rw[(vT t h).1,b u hu]
    · obtain⟨u,hu,h⟩:=ix.1 h
      rw[(vT t h).1,c u hu]
theorem Jg {N:Nat} (c:1099000000000≤N) (g:dl) (e:SzG g) (s1:List aq) (F:List ao) (k:Nat) (K:List aq→List ao→List ao→Int→Option (List aq)) (a:Int) (A:bF) (f:idx g.chain.Pos (k:Int)=some a) (h:idx g.alphas a=some A) (hk:k+1≤g.pos.length)
    (j:∀ t∈F,t.Ids.length=k) (b:List ao) (l:b.length+F.length*A.L.length≤4294967296) (m:A.L.length≤4294967296) (o:F.length≤4294967296) :
    dC N g s1 F (k:Int) K N b 0=cN N s1 (k:Int) K (b++F.flatMap fun t=>gw g.s.Items g.pos g.neg t.Ids A.L):=by
  refine lp' c F o (fun n (u:List ao) i=>dC N g s1 F (k:Int) K n u i) (fun t u=>cN N s1 (k:Int) K (u++t.flatMap fun t=>gw g.s.Items g.pos g.neg t.Ids A.L)) (fun u t=>u.length+t.length*A.L.length≤4294967296) b l (fun n u i v t g1 g2 g3 g4 g5 g6 d p=>?_) (fun n u i g1 g2 d=>?_)
  · rw[gh,hB] at d
    have h1:=qM g.s.Items g.pos g.neg v.Ids A.L
    simp only[dC,g5,if_true,g4,fz,f,h,yc c g e v.Ids A.L (by rw[j v g2];exact hk) m,bO (show u.length+(gw g.s.Items g.pos g.neg v.Ids A.L).length≤4294967296 by omega),g6]
    rw[p _ (by rw[gi];omega),ks,gf]
  · simp only[dC,g2,fI,if_false];simp
theorem IQ {N:Nat} (c:1099000000000≤N) (g:dl) (d:SzG g) (s1:List aq) (B F:List ao) (k:Nat) (K:List aq→List ao→List ao→Int→Option (List aq)) (a:Int) (A:bF) (e:idx g.chain.Pos (k:Int)=some a) (f:idx g.alphas a=some A) (hk:k+1≤g.pos.length)
    (h:∀ t∈B,t.Ids.length=k) (j:∀ t∈F,t.Ids.length=k) (l:B.length+F.length*A.L.length≤4294967296) (m:A.L.length≤4294967296) (o:F.length≤4294967296) :
    dI N g s1 B F (k:Int) K N [] 0=cN N s1 (k:Int) K ((B.flatMap fun t=>gw g.s.Items g.pos g.neg t.Ids [g.id])++F.flatMap fun t=>gw g.s.Items g.pos g.neg t.Ids A.L):=by
  refine (lp' c B NR (fun n (u:List ao) i=>dI N g s1 B F (k:Int) K n u i) (fun t u=>cN N s1 (k:Int) K (u++(t.flatMap fun t=>gw g.s.Items g.pos g.neg t.Ids [g.id])++F.flatMap fun t=>gw g.s.Items g.pos g.neg t.Ids A.L)) (fun u t=>u.length+t.length+F.length*A.L.length≤4294967296) [] (by simpa using l) (fun n u i v t g1 g2 g3 g4 g5 g6 b p=>?_) (fun n u i g1 g2 b=>?_)).trans NS
  · rw[gh] at b
    have h1:=qM g.s.Items g.pos g.neg v.Ids [g.id]
    simp only[gh,gk,ho] at h1
    simp only[dI,g5,if_true,g4,fz,yc c g d v.Ids [g.id] (by rw[h v g2];exact hk) NS,bO (show u.length+(gw g.s.Items g.pos g.neg v.Ids [g.id]).length≤4294967296 by omega),g6]
    rw[p _ (by rw[gi];omega),ks]
    simp only[gf]
  · simp only[dI,g2,fI,if_false]
    simp only[gk,k0] at b
    rw[Jg c g d s1 F k K a A e f hk j u b m o];simp
theorem DJ {N:Nat} (e:1099000000000≤N) (g:dl) (d:SzG g) (b:List aq) (A:Nat→List Int) (hp:b.length≤g.pos.length) (s:∀ k,k < b.length→∃ a i,idx g.chain.Pos (k:Int)=some a∧idx g.alphas a=some i∧i.L=A k) (u:∀ k,(A k).length≤4294967296) :
    ∀ (rest:List aq) (n:Nat) (done:List aq) (B F:List ao),rest.length < n→done.length+rest.length=b.length→(∀ t∈B,t.Ids.length=done.length)→(∀ t∈F,t.Ids.length=done.length)→(∀ i L,rest[i]?=some L→∀ t∈L.Toks,t.Ids.length=done.length+1+i) →
      F.length≤4294967296→uM (fun k=>(A k).length) done.length (rest.map (·.Toks.length)) B.length F.length→cn N g b n (done++rest) B F (done.length:Int)=some (done++m8 g.s.Items g.pos g.neg g.id A done.length rest B F)
  | [],n,done,B,F,f,h,l,o,p,v,w=>by
    obtain⟨n,rfl⟩:∃ m,n=m+1:=⟨n - 1,by simp at f;omega⟩
    simp only[gk,k0] at h
    have c1:decide ((done.length:Int) < (b.length:Int))=false:=decide_eq_false NR
    simp only[cn,c1,fI,if_false,m8]
  | L :: Ls,n,done,B,F,f,h,l,o,p,v,w=>by
    obtain⟨n,rfl⟩:∃ m,n=m+1:=⟨n - 1,NR⟩
    simp only[gh] at f h
    obtain⟨x,y⟩:=w
    simp only at x y
    have O:=d.pl
    have c1:decide ((done.length:Int) < (b.length:Int))=true:=decide_eq_true NR
    obtain⟨a,i,z,C,q⟩:=s done.length NR
    have D:=vY g.s.Items g.pos g.neg g.id done.length B F (A done.length)
    have E:=zL (xs:=g.s.Items) (ps:=g.pos) (ns:=g.neg) (id:=g.id) (A:=A done.length) l o
    -- the end of a round
    have key:∀ M,M=iS g.s.Items g.pos g.neg g.id done.length B F (A done.length)→cN N (done++L :: Ls) (done.length:Int) (cn N g b n) M=some (done++m8 g.s.Items g.pos g.neg g.id A done.length (L :: Ls) B F):=by
      intro M G
      subst G
      have H:idx (done++L :: Ls) (done.length:Int)=some L:=by rw[nE];simp
      have I:(done++L :: Ls).set ((done.length:Int)).toNat ⟨L.Toks++iS g.s.Items g.pos g.neg g.id done.length B F (A done.length)⟩=(done++[⟨L.Toks++iS g.s.Items g.pos g.neg g.id done.length B F (A done.length)⟩])++Ls:=by
        rw[hW,qu _ _ (hn _),rs,LL,gf];rfl
      simp only[cN,H,fz,eI,ft (show L.Toks.length≤4294967296 by omega),bO (show L.Toks.length+(iS g.s.Items g.pos g.neg g.id done.length B F (A done.length)).length≤4294967296 by omega),I,wr1 done.length NR]
      have:=DJ e g d b A hp s u Ls n (done++[⟨L.Toks++iS g.s.Items g.pos g.neg g.id done.length B F (A done.length)⟩]) L.Toks (iS g.s.Items g.pos g.neg g.id done.length B F (A done.length)) NR (by simp;omega)
        (fun t c=>by have:=p 0 L rfl t c;simpa using this) (fun t c=>by simpa using E t c) (fun j M K t c=>by have:=p (j+1) M (by simpa using K) t c;simp only[gi,gh,gk];omega) NR
        (by simp only[gi,gh,gk];exact w8 y (hn _) D)
      simp only[gi,gh,gk,ho] at this
      rw[this,gf];rfl
    simp only[cn,c1,if_true]
    by_cases r:done.length=0
    · have c2:decide ((done.length:Int)=0)=true:=decide_eq_true NR
      simp only[c2,if_true,yc e g d [] [g.id] (by simp;omega) NS,fz]
      exact key _ (by unfold iS;rw[if_pos r])
    · have c2:decide ((done.length:Int)=0)=false:=decide_eq_false NR
      rw[if_neg r] at x
      simp only[c2,fI,if_false]
      rw[IQ e g d _ B F done.length _ a i z C NR l o (by rw[q];omega) (by rw[q];exact u _) v,q]
      exact key _ (by unfold iS;rw[if_neg r])
theorem KF {N:Nat} (c:1099000000000≤N) (g:dl) (b:SzG g) (ls:List aq) (A:Nat→List Int) (hp:ls.length≤g.pos.length) (d:∀ k,k < ls.length→∃ a i,idx g.chain.Pos (k:Int)=some a∧idx g.alphas a=some i∧i.L=A k) (e:∀ k,(A k).length≤4294967296)
    (f:∀ i L,ls[i]?=some L→∀ t∈L.Toks,t.Ids.length=i+1) (j:uM (fun k=>(A k).length) 0 (ls.map (·.Toks.length)) 0 0):ig N g ls=some (m8 g.s.Items g.pos g.neg g.id A 0 ls [] []):=by
  have m:=b.pl
  have:=DJ c g b ls A hp d e ls N [] [] [] NR NS NS NS (fun i L h t l=>by rw[f i L h t l];simp;omega) NS (by simpa using j)
  unfold ig
  simpa using this
theorem sT {N:Nat} (d:1099000000000≤N) (r:af) (b:Bool) (e:r.Pats.length≤1048576):nW N r b=some (r.Pats.filter fun p=>p.Not == b):=by
  unfold nW
  refine (lp' d r.Pats NR (je N r b) (fun t u=>some (u++t.filter fun p=>p.Not == b)) (fun u t=>u.length+t.length≤1048576) [] (by simpa using e) (fun n u i p t g1 g2 g3 g4 g5 g6 a c=>?_) (fun n u i g1 g2 a=>?_)).trans NS
  · simp only[gh] at a
    simp only[je,g5,if_true,g4,fz,j5,g6]
    cases f:(p.Not == b) with
    | true=>
      simp only[if_true,bO (show u.length+[p].length≤4294967296 by simp;omega),fz]
      rw[c _ (by simp;omega)];simp
    | false=>
      simp only[fI,if_false]
      exact c u NR
  · simp only[je,g2,fI,if_false];simp
theorem kU {α:Type} (d:List α) (x y:α) (t:List α):(d++x :: t).set d.length y=(d++[y])++t:=by
  rw[qu _ _ (hn _),rs,LL,gf];rfl
theorem eo {α:Type} (d:List α) (x:α) (t:List α):idx (d++x :: t) (d.length:Int)=some x:=by rw[nE];simp
theorem BJ {N:Nat} (r:1099000000000≤N) (g:dl) (l:SzG g) (d:Int) (i:aI × Bool) (s1:List ao) (s2:Int) (K:List ao→Int→Option (List ao)) (o:ao) (e:List au × Bool) (s:e.1.length≤2147483648) :
    ∀ (ns:List ay) (n:Nat) (a:List ay) (b h:List Int),ns.length < n→g.neg=a++ns→b.length=a.length→h.length=ns.length →
      cP N g d i s1 s2 K o e n (b++h) (a.length:Int)=K (s1.set s2.toNat ⟨o.Ids,b++kX i.1 e.1 d ns h⟩) (IntKind.i64.wrap (s2+1))
  | [],n,a,b,h,j,c,f,k=>by
    obtain⟨n,rfl⟩:∃ m,n=m+1:=⟨n - 1,by simp at j;omega⟩
    have c1:decide ((a.length:Int) < (g.neg.length:Int))=false:=decide_eq_false (by rw[c];simp)
    simp only[cP,c1,fI,if_false,kX]
  | p :: ns,n,a,b,[],j,c,f,k=>by simp at k
  | p :: ns,n,a,b,x :: h,j,c,f,k=>by
    obtain⟨n,rfl⟩:∃ m,n=m+1:=⟨n - 1,NR⟩
    simp only[gh] at j k
    have w:=l.nl
    have y:g.neg.length=a.length+(ns.length+1):=by rw[c];simp
    have c1:decide ((a.length:Int) < (g.neg.length:Int))=true:=decide_eq_true NR
    have t:idx g.neg (a.length:Int)=some p:=by rw[c];exact eo _ _ _
    have u:idx (b++x :: h) (a.length:Int)=some x:=by rw[← f];exact eo _ _ _
    have hp:p∈g.neg:=by rw[c];simp
    simp only[cP,c1,if_true,t,fz,vq r p i.1 e.1 (l.na p hp) s,wr1 a.length NR,kX]
    have q:=BJ r g l d i s1 s2 K o e s ns n (a++[p])
    simp only[gi,gh,gk,ho] at q
    cases hm:(bw p i.1 e.1).2 with
    | true=>
      simp only[if_true,u,fz]
      have v:(b++x :: h).set ((a.length:Int)).toNat (IntKind.i64.wrap (x+d))=(b++[IntKind.i64.wrap (x+d)])++h:=by rw[hW,← f];exact kU _ _ _ _
      rw[v,q (b++[IntKind.i64.wrap (x+d)]) h NR (by rw[c];simp) (by simp[f]) NR]
      simp
    | false=>
      simp only[fI,if_false]
      have:=q (b++[x]) h NR (by rw[c];simp) (by simp[f]) NR
      simp only[gf,hK,ha] at this
      exact this
theorem BN {N:Nat} (h:1099000000000≤N) (g:dl) (e:SzG g) (f:List ao) (b:Int) (c:aI × Bool) (p:f.length≤4294967296):∀ (a:List ao) (n:Nat) (d:List ao),a.length < n→d.length+a.length=f.length→(∀ t∈a,t.Ids.length≤g.pos.length∧t.Hits.length=g.neg.length) →
    cp N g f b c n (d++a) (d.length:Int)=some (d++jO g.s.Items g.pos g.neg c.1 b a)
  | [],n,d,i,j,k=>by
    obtain⟨n,rfl⟩:∃ m,n=m+1:=⟨n - 1,by simp at i;omega⟩
    simp only[gk,k0] at j
    have c1:decide ((d.length:Int) < (f.length:Int))=false:=decide_eq_false NR
    simp only[cp,c1,fI,if_false,jO,List.map_nil]
  | t :: a,n,d,i,j,k=>by
    obtain⟨n,rfl⟩:∃ m,n=m+1:=⟨n - 1,NR⟩
    simp only[gh] at i j
    have w:=e.pl
    have x:=e.sa
    have c1:decide ((d.length:Int) < (f.length:Int))=true:=decide_eq_true NR
    obtain⟨h1,q⟩:=k t NS
    have z:=rY g.s.Items g.pos t.Ids
    have r:bd g.s.Items (g.pos.take t.Ids.length) t.Ids []=okB g.s.Items g.pos t.Ids:=rfl
    have l:=fun y=>BN h g e f b c p a n (d++[y]) NR (by simp;omega) (fun u hu=>k u (by simp[hu]))
    simp only[gi,gh,gk,ho] at l
    simp only[cp,c1,if_true,eo,fz,Bu h g.pos g.s t.Ids e.sa e.pa e.sl e.fl NR h1,r,wr1 d.length NR]
    have s:jO g.s.Items g.pos g.neg c.1 b (t :: a)=(if (okB g.s.Items g.pos t.Ids).2=true then ⟨t.Ids,kX c.1 (okB g.s.Items g.pos t.Ids).1 b g.neg t.Hits⟩ else t) :: jO g.s.Items g.pos g.neg c.1 b a:=rfl
    rw[s]
    cases A:(okB g.s.Items g.pos t.Ids).2 with
    | false=>
      simp only[hI,if_true,fI,if_false]
      have:=l t
      simp only[gf,hK,ha] at this
      exact this
    | true=>
      simp only[hA,fI,if_false,if_true]
      have o:=BJ h g e b c (d++t :: a) (d.length:Int) (cp N g f b c n) t (okB g.s.Items g.pos t.Ids) NR g.neg N [] [] t.Hits (by have:=e.nl;omega) rfl rfl q
      simp only[ha,gk,oi,hW] at o
      have v:cP N g b c (d++t :: a) (d.length:Int) (cp N g f b c n) t (okB g.s.Items g.pos t.Ids) N t.Hits 0=_:=o
      rw[v,kU,wr1 d.length NR,l,gf];rfl
theorem J6 {N:Nat} (d:1099000000000≤N) (g:dl) (b:SzG g) (a:List ao) (c:Int) (e:a.length≤4294967296) (f:∀ t∈a,t.Ids.length≤g.pos.length∧t.Hits.length=g.neg.length) :
    gV N g a c=some (jO g.s.Items g.pos g.neg (aF g.s.Items g.id).1 c a):=by
  unfold gV
  rw[sH d g.s g.id b.sl b.fl,fz]
  have:=BN d g b a c (aF g.s.Items g.id) e a N [] NR NS f
  simpa using this
structure Bn (as:List bF) (r:af) (c:aG) (row:aP):Prop where
  ne:1≤row.Levels.length
  ll:row.Levels.length=(pos r.Pats).length
  ids:∀ i L,row.Levels[i]?=some L→∀ t∈L.Toks,t.Ids.length=i+1
  hit:∀ L,row.Levels[row.Levels.length - 1]?=some L→∀ t∈L.Toks,t.Hits.length=(neg r.Pats).length
  at_:∀ k,k < row.Levels.length→∃ a i,idx c.Pos (k:Int)=some a∧idx as a=some i
  fit:uM (fun k=>(uk as c k).length) 0 (row.Levels.map (·.Toks.length)) 0 0
  al:∀ k,(uk as c k).length≤4294967296
theorem xp {A:Nat→Nat}:∀ {ls:List Nat} {k b f:Nat},uM A k ls b f→∀ l∈ls,l≤4294967296
  | [],_,_,_,_,_,h=>by cases h
  | l :: ls,k,b,f,h,x,a=>by
    rcases hE.1 a with rfl | a
    · have:=h.1;omega
    · exact xp h.2 x a
theorem Cm {row:aP} {L:aq} {M:List ao} {i:Nat} (a:row.Levels[i]?=some L) (b:M.length=L.Toks.length):(row.Levels.set i ⟨M⟩).map (·.Toks.length)=row.Levels.map (·.Toks.length):=by
  rw[List.map_set]
  have:(row.Levels.map (·.Toks.length))[i]?=some L.Toks.length:=by rw[List.getElem?_map,a];rfl
  apply List.ext_getElem?
  intro j
  rw[List.getElem?_set]
  split
  · rename_i e;subst e
    split
    · rw[this,← b]
    · rename_i c;rw[List.length_map] at c;have:=(gx.1 a).1;omega
  · rfl
theorem wi {as:List bF} {c:aG} {k:Nat} {a:Int} {i:bF} (h1:idx c.Pos (k:Int)=some a) (b:idx as a=some i):i.L=uk as c k:=by
  unfold uk
  rw[nE] at h1
  rw[h1]
  simp only[b]
structure SzR (r:af):Prop where
  pl:r.Pats.length≤1048576
  sa:dm r.Pats≤1048576
  pa:∀ p∈r.Pats,p.Args.length≤1048576
theorem FV {r:af} {c:aG} {as:List bF} {s:ac} {id:Int} (a:SzR r) (b:s.Items.length≤1048576) (d:∀ x∈s.Items,x.F.Fields.length≤1048576):SzG ⟨pos r.Pats,neg r.Pats,c,as,s,id⟩:=by
  have h1:=qj r.Pats
  have e:=a.sa
  have f:(pos r.Pats).length≤r.Pats.length:=py _ _
  have g:(neg r.Pats).length≤r.Pats.length:=py _ _
  have h:=a.pl
  exact⟨by simp only;omega,by simp only;omega,fun p hp=>a.pa p (nt.1 hp).1,by simp only;omega,fun p hp=>a.pa p (nt.1 hp).1,b,d⟩
theorem Ih (l:List ay):(l.filter fun p=>p.Not == true)=neg l:=by
  unfold neg;congr 1;funext p;cases p.Not <;> rfl
theorem Mu {N:Nat} (n:1099000000000≤N) (r:af) (c:aG) (as:List bF) (s:ac) (id:Int) (row:aP) (o:SzR r) (p:s.Items.length≤1048576) (q:∀ x∈s.Items,x.F.Fields.length≤1048576) (ok:Bn as r c row) {β:Type} (K:List aq→Option β) :
    ((idx row.Levels (IntKind.i64.wrap ((row.Levels.length:Int) - 1))).bind fun v=>((gV N ⟨pos r.Pats,neg r.Pats,c,as,s,id⟩ v.Toks 1).bind fun w=>((ig N ⟨pos r.Pats,neg r.Pats,c,as,s,id⟩ (row.Levels.set (IntKind.i64.wrap ((row.Levels.length:Int) - 1)).toNat (⟨w⟩:aq))).bind fun y=>K y)))
      = K (oS s.Items as (aF s.Items id).1 id r c row).Levels:=by
  have l:=FV (c:=c) (as:=as) (s:=s) (id:=id) o p q
  have D:=ok.ne
  have E:=ok.ll
  have z:=l.pl
  simp only at z
  have A:IntKind.i64.wrap ((row.Levels.length:Int) - 1)=((row.Levels.length - 1:Nat):Int):=by
    rw[show ((row.Levels.length:Int) - 1)=((row.Levels.length - 1:Nat):Int) by omega]
    exact wr NR NR
  have m:row.Levels.length - 1 < row.Levels.length:=by omega
  have d:row.Levels[row.Levels.length - 1]?=some row.Levels[row.Levels.length - 1]:=gj m
  have hlen:(row.Levels[row.Levels.length - 1]).Toks.length≤4294967296:=xp ok.fit _ (hC.2 ⟨_,hG m,rfl⟩)
  rw[A,ah m,fz,J6 n _ l _ 1 hlen (fun t g=>⟨by have:=ok.ids _ _ d t g;simp only;omega,ok.hit _ d t g⟩),fz,hW]
  have B:=Cm (M:=jO s.Items (pos r.Pats) (neg r.Pats) (aF s.Items id).1 1 (row.Levels[row.Levels.length - 1]).Toks) d (wh _)
  have C:=KF n _ l (row.Levels.set (row.Levels.length - 1) ⟨jO s.Items (pos r.Pats) (neg r.Pats) (aF s.Items id).1 1 (row.Levels[row.Levels.length - 1]).Toks⟩) (uk as c) (by simp only[List.length_set];omega)
    (fun k hk=>by
      rw[List.length_set] at hk
      obtain⟨a,i,h1,j⟩:=ok.at_ k hk
      exact⟨a,i,h1,j,wi h1 j⟩) ok.al
    (fun i L h t g=>by
      rw[List.getElem?_set] at h
      split at h
      · rename_i e;subst e
        · simp only[Option.some.injEq] at h
          subst h
          have h1:=tt (xs:=s.Items) (ps:=pos r.Pats) (ns:=neg r.Pats) (f:=(aF s.Items id).1) (b:=1) (row.Levels[row.Levels.length - 1]).Toks
          have j:t.Ids∈(row.Levels[row.Levels.length - 1]).Toks.map (·.Ids):=by rw[← h1];exact hC.2 ⟨t,g,rfl⟩
          obtain⟨u,hu,e⟩:=hC.1 j
          rw[← e];exact ok.ids _ _ d u hu
      · exact ok.ids i L h t g)
    (by rw[B];exact ok.fit)
  rw[C,fz]
  unfold oS fO
  rw[d]
theorem GJ {N:Nat} (u:1099000000000≤N) (d:bv) (n:ce) (m:aN) (s:ac) (id:Int) (as:List bF) (y:s.Items.length≤1048576) (z:∀ x∈s.Items,x.F.Fields.length≤1048576) (A:m.Rules.length≤1048576) :
    ∀ (ws:List aP) (b:List af) (cs:List aG) (k:Nat) (e:List af) (f:List aG) (a:List aP),ws.length < k→d.Rules=e++b→n.Chains=f++cs→a.length+ws.length=m.Rules.length→e.length=a.length→f.length=a.length→b.length=ws.length→cs.length=ws.length →
      (∀ (i:Nat) (r:af) (c:aG) (w:aP),b[i]?=some r→cs[i]?=some c→ws[i]?=some w→SzR r∧Bn as r c w) →
      eF N d n m s id as k (a++ws) (a.length:Int)=some (as,a++om (oS s.Items as (aF s.Items id).1 id) b cs ws)
  | [],b,cs,k,e,f,a,hk,h1,g,h,l,o,p,q,t=>by
    obtain⟨k,rfl⟩:∃ j,k=j+1:=⟨k - 1,by simp at hk;omega⟩
    simp only[gk,k0] at h
    have c1:decide ((a.length:Int) < (m.Rules.length:Int))=false:=decide_eq_false NR
    simp only[eF,c1,fI,if_false]
    cases b <;> cases cs <;> simp[om]
  | w :: ws,[],cs,k,e,f,a,hk,h1,g,h,l,o,p,q,t=>by simp at p
  | w :: ws,r :: b,[],k,e,f,a,hk,h1,g,h,l,o,p,q,t=>by simp at q
  | w :: ws,r :: b,c :: cs,k,e,f,a,hk,h1,g,h,l,o,p,q,t=>by
    obtain⟨k,rfl⟩:∃ j,k=j+1:=⟨k - 1,NR⟩
    simp only[gh] at hk h p q
    have c1:decide ((a.length:Int) < (m.Rules.length:Int))=true:=decide_eq_true NR
    obtain⟨v,B⟩:=t 0 r c w rfl rfl rfl
    have C:idx d.Rules (a.length:Int)=some r:=by rw[h1,← l];exact eo _ _ _
    have D:idx n.Chains (a.length:Int)=some c:=by rw[g,← o];exact eo _ _ _
    simp only[eF,c1,if_true,eo,fz,oD,C,D,sT u r false v.pl,sT u r true v.pl,AE,Ih]
    rw[Mu u r c as s id w v y z B (fun E=>eF N d n m s id as k ((a++w :: ws).set (a.length:Int).toNat (⟨E⟩:aP)) (IntKind.i64.wrap ((a.length:Int)+1)))]
    rw[hW,kU,wr1 a.length NR]
    have:=GJ u d n m s id as y z A ws b cs k (e++[r]) (f++[c]) (a++[⟨(oS s.Items as (aF s.Items id).1 id r c w).Levels⟩]) NR (by rw[h1];simp) (by rw[g];simp) (by simp;omega) (by simp[l]) (by simp[o]) NR NR
      (fun i F G w' H a2 a3=>t (i+1) F G w' (by simpa using H) (by simpa using a2) (by simpa using a3))
    simp only[gi,gh,gk,ho] at this
    rw[this,gf]
    rfl
theorem Hj {N:Nat} (o:1099000000000≤N) (d:bv) (n:ce) (m:aN) (s:ac) (id:Int) (f:aI × Bool) (p:∀ a∈n.Alphas,a.At.length≤1048576) (q:n.Alphas.length≤1048576) :
    ∀ (as:List av) (k:Nat) (b:List av) (c is:List bF),as.length < k→n.Alphas=b++as→c.length=b.length→is.length=as.length→(∀ i∈is,i.L.length+1≤4294967296) →
      eE N d n m s id f k (c++is) (b.length:Int)=eF N d n m s id (c++d5 f.1 id as is) N m.Rules 0
  | [],k,b,c,is,hk,h1,e,g,h=>by
    obtain⟨k,rfl⟩:∃ j,k=j+1:=⟨k - 1,by simp at hk;omega⟩
    have c1:decide ((b.length:Int) < (n.Alphas.length:Int))=false:=decide_eq_false (by rw[h1];simp)
    simp only[eE,c1,fI,if_false,d5]
  | a :: as,k,b,c,[],hk,h1,e,g,h=>by simp at g
  | a :: as,k,b,c,i :: is,hk,h1,e,g,h=>by
    obtain⟨k,rfl⟩:∃ j,k=j+1:=⟨k - 1,NR⟩
    simp only[gh] at hk g
    have z:n.Alphas.length=b.length+(as.length+1):=by rw[h1];simp
    have c1:decide ((b.length:Int) < (n.Alphas.length:Int))=true:=decide_eq_true NR
    have r:idx n.Alphas (b.length:Int)=some a:=by rw[h1];exact eo _ _ _
    have t:idx (c++i :: is) (b.length:Int)=some i:=by rw[← e];exact eo _ _ _
    have u:a∈n.Alphas:=by rw[h1];simp
    have v:=h i NS
    have l:=fun y=>Hj o d n m s id f p q as k (b++[a]) (c++[y]) is NR (by rw[h1];simp) (by simp[e]) NR (fun j w=>h j (by simp[w]))
    simp only[gi,gh,gk,ho,gf,hK,ha] at l
    simp only[eE,c1,if_true,r,fz,Gy o a f.1 (p a u),wr1 b.length NR,d5]
    cases hp:gp a f.1 with
    | true=>
      simp only[if_true,t,fz,bO (show i.L.length+[id].length≤4294967296 by simpa using v)]
      have x:(c++i :: is).set ((b.length:Int)).toNat (⟨i.L++[id]⟩:bF)=c++⟨i.L++[id]⟩ :: is:=by
        rw[hW,← e,kU,gf];rfl
      rw[x]
      exact l _
    | false=>
      simp only[fI,if_false]
      exact l i
structure Kk (d:bv) (n:ce) (m:aN) (s:ac) (id:Int):Prop where
  sl:s.Items.length≤1048576
  fl:∀ x∈s.Items,x.F.Fields.length≤1048576
  at_:∀ a∈n.Alphas,a.At.length≤1048576
  al:n.Alphas.length≤1048576
  rl:m.Rules.length≤1048576
  la:m.Alphas.length=n.Alphas.length
  lc:n.Chains.length=m.Rules.length
  ld:d.Rules.length=m.Rules.length
  il:∀ i∈m.Alphas,i.L.length+1≤4294967296
  rows:∀ (i:Nat) (r:af) (c:aG) (w:aP),d.Rules[i]?=some r→n.Chains[i]?=some c→m.Rules[i]?=some w→SzR r∧Bn (d5 (aF s.Items id).1 id n.Alphas m.Alphas) r c w
theorem JX {N:Nat} (a:1099000000000≤N) (d:bv) (n:ce) (m:aN) (s:ac) (id:Int) (h:Kk d n m s id):m3 N d n m s id=some ((yL d n m s id).Alphas,(yL d n m s id).Rules):=by
  have e:=h.al
  have f:=h.rl
  unfold m3
  rw[sH a s id h.sl h.fl,fz]
  have h1:=Hj a d n m s id (aF s.Items id) h.at_ h.al n.Alphas N [] [] m.Alphas NR rfl rfl h.la h.il
  simp only[ha,gk,oi] at h1
  have c:eE N d n m s id (aF s.Items id) N m.Alphas 0=_:=h1
  rw[c]
  have b:=GJ a d n m s id (d5 (aF s.Items id).1 id n.Alphas m.Alphas) h.sl h.fl h.rl m.Rules d.Rules n.Chains N [] [] [] NR rfl rfl NS rfl rfl h.ld h.lc h.rows
  simp only[ha,gk,oi] at b
  exact b
end Go.Proofs.YtedmfnmbjglmbaaGreat
