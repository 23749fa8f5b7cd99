/- Plain laws, one after the other: PLCame. -/
import Derived.Test.YtedmfnmbjglmbaaGreatTCame
import Derived.Test.YtedmfnmbjglmbaaGreatPLib
import Derived.Test.YtedmfnmbjglmbaaGreatWCameMod
import Derived.Test.YtedmfnmbjglmbaaGreatWCamePur
namespace Go.Proofs.YtedmfnmbjglmbaaGreat
open Eng
set_option linter.unusedVariables false
set_option linter.unusedSimpArgs false
def InR (x:Int):Prop:=IntKind.i64.wrap x=x
theorem EQ {N:Nat} (c s2:Int) (K:List ao→Int→Option (List ao)) (f:aI) (l:List au) (o:c=1∨c = -1) (d:List Int) (r:d.length≤1048576) (done:List ao) (k:s2=(done.length:Int)) (ids:List Int) (rest:List ao) :
  ∀ (ns:List ay) (n:Nat) (a b h:List Int),ns.length < n→d=a++oO ns f l→b.length=a.length→h.length=ns.length→(∀ x∈h,InR x) →
   ee N c s2 K (l,true) d n (done++⟨ids,b++h⟩ :: rest) (a.length:Int)=K (done++⟨ids,b++kX f l c ns h⟩ :: rest) (IntKind.i64.wrap (s2+1))
 | [],n,a,b,h,g,h1,e,i,j=>by
  obtain⟨n,rfl⟩:∃ m,n=m+1:=⟨n - 1,by simp at g;omega⟩
  have c1:decide ((a.length:Int) < (d.length:Int))=false:=decide_eq_false (by rw[h1];simp[oO])
  simp only[ee,c1,fI,if_false,fz,kX]
 | p :: ns,n,a,b,[],g,h1,e,i,j=>by simp at i
 | p :: ns,n,a,b,x :: h,g,h1,e,i,j=>by
  obtain⟨n,rfl⟩:∃ m,n=m+1:=⟨n - 1,NR⟩
  simp only[gh] at g i
  have D:d.length=a.length+(ns.length+1):=by rw[h1];simp[oO]
  have c1:decide ((a.length:Int) < (d.length:Int))=true:=decide_eq_true NR
  have q:oO (p :: ns) f l=(if (bw p f l).2=true then 1 else 0) :: oO ns f l:=rfl
  have s:idx d (a.length:Int)=some (if (bw p f l).2=true then 1 else 0):=by rw[h1,q];exact eo _ _ _
  have t:idx (done++(⟨ids,b++x :: h⟩:ao) :: rest) s2=some ⟨ids,b++x :: h⟩:=by rw[k];exact eo _ _ _
  have u:idx (b++x :: h) (a.length:Int)=some x:=by rw[← e];exact eo _ _ _
  have v:IntKind.i64.wrap x=x:=j x NS
  have w:IntKind.i64.wrap (x+IntKind.i64.wrap (c*(if (bw p f l).2=true then 1 else 0)))=if (bw p f l).2=true then IntKind.i64.wrap (x+c) else x:=by
   split
   ·rw[Int.mul_one]
    have:IntKind.i64.wrap c=c:=by rcases o with rfl | rfl <;> decide
    rw[this]
   ·rw[Int.mul_zero,show IntKind.i64.wrap 0=0 by decide,Int.add_zero,v]
  have A:∀ y:Int,(b++x :: h).set ((a.length:Int)).toNat y=(b++[y])++h:=fun y=>by rw[hW,← e];exact kU _ _ _ _
  have B:∀ y:ao,(done++(⟨ids,b++x :: h⟩:ao) :: rest).set s2.toNat y=done++y :: rest:=fun y=>by rw[k,hW,kU,gf];rfl
  simp only[ee,c1,if_true,fz,s,t,u,w,A,B,wr1 a.length NR]
  have:=EQ (N:=N) c s2 K f l o d r done k ids rest ns n (a++[if (bw p f l).2=true then 1 else 0]) (b++[if (bw p f l).2=true then IntKind.i64.wrap (x+c) else x]) h NR (by rw[h1,q];simp) (by simp[e]) NR (fun z C=>j z (by simp[C]))
  simp only[gi,gh,gk,ho] at this
  rw[this,kX]
  simp only[gf,hK,ha]
theorem GU {N:Nat} (g:1099000000000≤N) (r:af) (s:ac) (d:SzS r s) (f:aI) (a:Int) (j:a=1∨a = -1) (c:List ao) (k:c.length≤4294967296)
  (o:∀ t∈c,t.Ids.length≤ak r.Pats∧t.Hits.length=(neg r.Pats).length∧∀ x∈t.Hits,InR x):lU N r s c f a=some (jO s.Items (pos r.Pats) (neg r.Pats) f a c):=by
 have B:=d.pl
 have C:(neg r.Pats).length≤r.Pats.length:=py _ _
 unfold lU
 have lp:∀ (b:List ao) (n:Nat) (done:List ao),b.length < n→done.length+b.length≤4294967296→(∀ t∈b,t∈c)→cZ N r s f a n (done++b) (done.length:Int)=some (done++jO s.Items (pos r.Pats) (neg r.Pats) f a b):=by
  intro b
  induction b with
  | nil=>
   intro n done e i hm
   obtain⟨n,rfl⟩:∃ m,n=m+1:=⟨n - 1,by simp at e;omega⟩
   have c1:decide ((done.length:Int) < ((done++[]).length:Int))=false:=decide_eq_false NS
   simp only[cZ,c1,fI,if_false,jO,rv]
  | cons t b p=>
   intro n done e i hm
   obtain⟨n,rfl⟩:∃ m,n=m+1:=⟨n - 1,NR⟩
   simp only[gh] at e i
   have c1:decide ((done.length:Int) < ((done++t :: b).length:Int))=true:=decide_eq_true (by simp;omega)
   obtain⟨h1,q,v⟩:=o t (hm t NS)
   obtain⟨l,g1,g2,g3⟩:=AB g r s d t.Ids h1
   simp only[cZ,c1,if_true,eo,fz,g1,Kg g r f l d.pl d.pa g3]
   have w:jO s.Items (pos r.Pats) (neg r.Pats) f a (t :: b)=(if (okB s.Items (pos r.Pats) t.Ids).2=true then ⟨t.Ids,kX f (okB s.Items (pos r.Pats) t.Ids).1 a (neg r.Pats) t.Hits⟩ else t) :: jO s.Items (pos r.Pats) (neg r.Pats) f a b:=rfl
   rw[w]
   have next:=fun y=>p n (done++[y]) NR (by simp;omega) (fun u hu=>hm u (by simp[hu]))
   simp only[gi,gh,gk,ho,gf,hK,ha] at next
   cases z:(okB s.Items (pos r.Pats) t.Ids).2 with
   | false=>
    simp only[fI,if_false]
    have:∀ n,ee N a (done.length:Int) (cZ N r s f a n) (l,false) (oO (neg r.Pats) f l) N (done++t :: b) 0=cZ N r s f a n (done++t :: b) (IntKind.i64.wrap ((done.length:Int)+1)):=fun n=>by
     obtain⟨M,rfl⟩:∃ m,N=m+1:=⟨N - 1,NR⟩
     unfold ee
     split <;> simp
    rw[this,wr1 done.length NR]
    exact next t
   | true=>
    obtain rfl:=g2 z
    simp only[if_true]
    have:=EQ (N:=N) a (done.length:Int) (cZ N r s f a n) f (okB s.Items (pos r.Pats) t.Ids).1 j (oO (neg r.Pats) f (okB s.Items (pos r.Pats) t.Ids).1) (by simp[oO];omega) done rfl t.Ids b (neg r.Pats) N [] [] t.Hits NR rfl rfl q v
    simp only[ha,gk,oi] at this
    have A:ee N a (done.length:Int) (cZ N r s f a n) ((okB s.Items (pos r.Pats) t.Ids).1,true) (oO (neg r.Pats) f (okB s.Items (pos r.Pats) t.Ids).1) N (done++t :: b) 0=_:=this
    rw[A,wr1 done.length NR]
    exact next _
 have:=lp c N [] NR (by simpa using k) (fun t h=>h)
 simpa using this
def ow (xs:List ag) (ps:List ay) (row ids:List Int):List ao:=ids.flatMap (kW xs ps row)
def wL (xs:List ag) (ps:List ay) (id:Int) (k:Nat) (B F:List ao) (A:List Int):List ao:=
 (if k=0 then kW xs ps [] id else B.flatMap fun t=>kW xs ps t.Ids id)++F.flatMap fun t=>ow xs ps t.Ids A
def wb (xs:List ag) (ps ns:List ay) (k:Nat) (t:ao):ao:=if k+1=ps.length then ⟨t.Ids,fj xs ns (okB xs ps t.Ids).1⟩ else t
theorem vV {xs:List ag} {ps ns:List ay} {row:List Int} {id:Int} {k:Nat} (h:row.length=k):(kW xs ps row id).map (wb xs ps ns k)=o2 xs ps ns row id:=by
 subst h
 unfold kW o2
 by_cases a:(okB xs ps (row++[id])).2=true
 ·rw[if_pos a,if_pos a,hN,rv]
  unfold wb
  by_cases hk:row.length+1=ps.length
  ·rw[if_pos hk,if_pos hk]
  ·rw[if_neg hk,if_neg hk]
 ·rw[if_neg a,if_neg a];rfl
theorem Gc {xs:List ag} {ps ns:List ay} {row:List Int} {k:Nat} (h:row.length=k) (ids:List Int):(ow xs ps row ids).map (wb xs ps ns k)=gw xs ps ns row ids:=by
 unfold ow gw
 rw[NT]
 congr 1
 funext v
 exact vV h
theorem mm {α β:Type} {f g:α→List β}:∀ {l:List α},(∀ x∈l,f x=g x)→l.flatMap f=l.flatMap g
 | [],_=>rfl
 | x :: t,h=>by rw[ks,ks,h x NS,mm fun y a=>h y (by simp[a])]
theorem Fp {xs:List ag} {ps ns:List ay} {id:Int} {k:Nat} {B F:List ao} {A:List Int} (b:k=0→F=[]) (c:∀ t∈B,t.Ids.length=k) (d:∀ t∈F,t.Ids.length=k):(wL xs ps id k B F A).map (wb xs ps ns k)=iS xs ps ns id k B F A:=by
 unfold wL iS
 rw[q2]
 by_cases hk:k=0
 ·rw[if_pos hk,if_pos hk,b hk,vV (by simp[hk])]
  simp[gw]
 ·rw[if_neg hk,if_neg hk,NT,NT]
  congr 1
  ·refine mm fun t a=>?_
   rw[vV (c t a)];simp[gw]
  ·exact mm fun t a=>Gc (d t a) A
theorem tu (xs:List ag) (ps:List ay) (row:List Int) (id:Int):(kW xs ps row id).length≤1:=by unfold kW;split <;> simp
theorem zJ (xs:List ag) (ps:List ay) (row:List Int):∀ (ids:List Int),(ow xs ps row ids).length≤ids.length
 | []=>by simp[ow]
 | v :: ids=>by
  have h1:=zJ xs ps row ids
  have a:=tu xs ps row v
  unfold ow at h1 ⊢
  rw[ks,gi,gh];omega
theorem GR {xs:List ag} {ps:List ay} {id:Int} {k:Nat} {B F:List ao} {A:List Int} (c:∀ t∈B,t.Ids.length=k) (d:∀ t∈F,t.Ids.length=k):∀ t∈wL xs ps id k B F A,t.Ids.length=k+1∧(okB xs ps t.Ids).2=true:=by
 have b:∀ (row:List Int) (v:Int),row.length=k→∀ t∈kW xs ps row v,t.Ids.length=k+1∧(okB xs ps t.Ids).2=true:=fun row v e t a=>by
  unfold kW at a
  split at a
  ·simp only[hY] at a;subst a;exact⟨by simp[e],by assumption⟩
  ·cases a
 intro t a
 unfold wL at a
 rcases gb.1 a with h | h
 ·split at h
  ·rename_i hk;exact b [] id (by simp[hk]) t h
  ·obtain⟨u,hu,h⟩:=ix.1 h
   exact b _ _ (c u hu) t h
 ·obtain⟨u,hu,h⟩:=ix.1 h
  unfold ow at h
  obtain⟨v,_,h⟩:=ix.1 h
  exact b _ _ (d u hu) t h
theorem J3 {N:Nat} (c:1099000000000≤N) (r:af) (s:ac) (e:SzS r s) (F:List ao) (a:bF) (j:Nat) (K:List ao→Int→Option aN) (t:ao) (f:idx F (j:Int)=some t) (m:j≤4294967296) (g:t.Ids.length+1≤ak r.Pats) (h:a.L.length≤4294967296) (b:List ao) (k:b.length+a.L.length≤4294967296) :
  gg N r s F a (j:Int) K N b 0=K (b++ow s.Items (pos r.Pats) t.Ids a.L) ((j+1:Nat):Int):=by
 refine lp' c a.L h (fun n (u:List ao) i=>gg N r s F a (j:Int) K n u i) (fun w u=>K (u++ow s.Items (pos r.Pats) t.Ids w) ((j+1:Nat):Int)) (fun u w=>u.length+w.length≤4294967296) b k (fun n u i v w g1 g2 g3 g4 g5 g6 d l=>?_) (fun n u i g1 g2 d=>?_)
 ·simp only[gh] at d
  have h1:=tu s.Items (pos r.Pats) t.Ids v
  simp only[gg,g5,if_true,f,g4,fz,DD c r s e u t.Ids v g NR,g6]
  rw[l _ (by rw[gi];omega)]
  simp[ow]
 ·simp only[gg,g2,fI,if_false,wr1 j NR];simp[ow]
theorem Ju {N:Nat} (d:1099000000000≤N) (r:af) (s:ac) (f:SzS r s) (b:aP) (s1:List aq) (F:List ao) (k:Int) (K:List aq→List ao→Int→Option aN) (a:bF) (g:∀ t∈F,t.Ids.length+1≤ak r.Pats) (h:F.length≤4294967296) (j:a.L.length≤4294967296) (c:List ao) (l:c.length+F.length*a.L.length≤4294967296) :
  eW N r s b s1 F k K a N c 0=cD N r s b s1 k K N (c++F.flatMap fun t=>ow s.Items (pos r.Pats) t.Ids a.L) 0:=by
 refine lp' d F h (fun n (u:List ao) i=>eW N r s b s1 F k K a n u i) (fun w u=>cD N r s b s1 k K N (u++w.flatMap fun t=>ow s.Items (pos r.Pats) t.Ids a.L) 0) (fun u w=>u.length+w.length*a.L.length≤4294967296) c l (fun n u i v w g1 g2 g3 g4 g5 g6 e m=>?_) (fun n u i g1 g2 e=>?_)
 ·rw[gh,hB] at e
  have h1:=zJ s.Items (pos r.Pats) v.Ids a.L
  simp only[eW,g5,if_true]
  rw[J3 d r s f F a i _ v g4 NR (g v g2) j u NR,m _ (by rw[gi];omega),ks,gf]
 ·simp only[eW,g2,fI,if_false];simp
theorem IH {N:Nat} (j:1099000000000≤N) (r:af) (s:ac) (e:SzS r s) (a:aP) (done:List aq) (L:aq) (Ls:List aq) (K:List aq→List ao→Int→Option aN) (v:a.Levels.length=(pos r.Pats).length) (hk:done.length+1≤(pos r.Pats).length) (w:(pos r.Pats).length=ak r.Pats) (M:List ao)
  (k:∀ t∈M,t.Ids.length=done.length+1∧(okB s.Items (pos r.Pats) t.Ids).2=true) (x:L.Toks.length+M.length≤4294967296) :
  cD N r s a (done++L :: Ls) (done.length:Int) K N M 0=K (done++⟨L.Toks++M.map (wb s.Items (pos r.Pats) (neg r.Pats) done.length)⟩ :: Ls) (M.map (wb s.Items (pos r.Pats) (neg r.Pats) done.length)) ((done.length+1:Nat):Int):=by
 have y:=e.pl
 have z:=et r.Pats
 have f:IntKind.i64.wrap ((a.Levels.length:Int) - 1)=((a.Levels.length - 1:Nat):Int):=by
  rw[show ((a.Levels.length:Int) - 1)=((a.Levels.length - 1:Nat):Int) by omega]
  exact wr NR NR
 have fin:∀ (n:Nat) (Z:List ao) (i:Int),Z.length=M.length→((if decide (i < (Z.length:Int)) then some (decide ((done.length:Int)=IntKind.i64.wrap ((a.Levels.length:Int) - 1))) else some false)=some false) →
   cD N r s a (done++L :: Ls) (done.length:Int) K (n+1) Z i=K (done++⟨L.Toks++Z⟩ :: Ls) Z ((done.length+1:Nat):Int):=by
  intro n Z i A l
  have o:(done++L :: Ls).set ((done.length:Int)).toNat (⟨L.Toks++Z⟩:aq)=done++⟨L.Toks++Z⟩ :: Ls:=by rw[hW,kU,gf];rfl
  simp only[cD,l,fz,fI,if_false,eo,bO (show L.Toks.length+Z.length≤4294967296 by omega),o,wr1 done.length NR]
 by_cases g:done.length+1=(pos r.Pats).length
 ·have c2:decide ((done.length:Int)=IntKind.i64.wrap ((a.Levels.length:Int) - 1))=true:=by rw[f];exact decide_eq_true NR
  have lp:∀ (Z:List ao) (n:Nat) (D:List ao),Z.length < n→D.length+Z.length=M.length→(∀ t∈Z,t∈M) →
    cD N r s a (done++L :: Ls) (done.length:Int) K n (D++Z) (D.length:Int)=K (done++⟨L.Toks++(D++Z.map (wb s.Items (pos r.Pats) (neg r.Pats) done.length))⟩ :: Ls) (D++Z.map (wb s.Items (pos r.Pats) (neg r.Pats) done.length)) ((done.length+1:Nat):Int):=by
   intro Z
   induction Z with
   | nil=>
    intro n D b c hm
    obtain⟨n,rfl⟩:∃ m,n=m+1:=⟨n - 1,by simp at b;omega⟩
    have c1:decide ((D.length:Int) < ((D++[]).length:Int))=false:=decide_eq_false NS
    rw[fin n (D++[]) (D.length:Int) (by simpa using c) (by rw[c1];rfl)]
    simp
   | cons t Z p=>
    intro n D b c hm
    obtain⟨n,rfl⟩:∃ m,n=m+1:=⟨n - 1,NR⟩
    simp only[gh] at b c
    have c1:decide ((D.length:Int) < ((D++t :: Z).length:Int))=true:=decide_eq_true (by simp;omega)
    obtain⟨h1,q⟩:=k t (hm t NS)
    have d:wb s.Items (pos r.Pats) (neg r.Pats) done.length t=⟨t.Ids,fj s.Items (neg r.Pats) (okB s.Items (pos r.Pats) t.Ids).1⟩:=by unfold wb;rw[if_pos g]
    simp only[cD,c1,if_true,c2,fz,eo,Gl j r s e t NR q,hW,kU,wr1 D.length NR]
    have:=p n (D++[⟨t.Ids,fj s.Items (neg r.Pats) (okB s.Items (pos r.Pats) t.Ids).1⟩]) NR (by simp;omega) (fun u hu=>hm u (by simp[hu]))
    simp only[gi,gh,gk,ho] at this
    rw[this,hN,d]
    simp only[gf,hK,ha]
  have:=lp M N [] NR NS (fun t h=>h)
  simpa using this
 ·have c2:decide ((done.length:Int)=IntKind.i64.wrap ((a.Levels.length:Int) - 1))=false:=by rw[f];exact decide_eq_false NR
  have d:M.map (wb s.Items (pos r.Pats) (neg r.Pats) done.length)=M:=by
   rw[show wb s.Items (pos r.Pats) (neg r.Pats) done.length=id from by funext t;unfold wb;rw[if_neg g];rfl,List.map_id]
  obtain⟨m,rfl⟩:∃ m,N=m+1:=⟨N - 1,NR⟩
  rw[d]
  have:=fin m M 0 rfl (by rw[c2];split <;> rfl)
  exact this
theorem E4 {N:Nat} (w:1099000000000≤N) (r:af) (s:ac) (l:SzS r s) (c:aG) (m:aN) (id:Int) (h:List Bool) (d:aP) (done:List aq) (L:aq) (Ls:List aq) (K:List aq→List ao→Int→Option aN) (k:Nat) (hk:done.length=k) (B F:List ao) (a:Int) (A:bF) (b:Bool)
  (o:idx c.Pos (k:Int)=some a) (E:idx m.Alphas a=some A) (x:idx h a=some b) (G:b=false→∀ row:List Int,row.length=k→kW s.Items (pos r.Pats) row id=[])
  (H:k≠0→∃ D,done=D++[⟨B++F⟩]) (I:k=0→B=[]) (M:k+1≤ak r.Pats) (y:∀ t∈B,t.Ids.length=k) (O:∀ t∈F,t.Ids.length=k) (P:A.L.length≤4294967296) (Q:F.length≤4294967296) (j:List ao) (R:j.length+B.length+F.length*A.L.length≤4294967296) :
  ei N r c m s id h d (done++L :: Ls) F (k:Int) K (B.length:Int) N j 0=cD N r s d (done++L :: Ls) (k:Int) K N (j++(B.flatMap fun t=>kW s.Items (pos r.Pats) t.Ids id)++F.flatMap fun t=>ow s.Items (pos r.Pats) t.Ids A.L) 0:=by
 have a1:=l.pl
 have a6:=et r.Pats
 have tail:∀ (n:Nat) (u:List ao) (i:Int),((if decide (i < (B.length:Int)) then ((idx c.Pos (k:Int)).bind fun S=>((idx h S).bind fun T=>some T)) else some false)=some false)→u.length+F.length*A.L.length≤4294967296 →
   ei N r c m s id h d (done++L :: Ls) F (k:Int) K (B.length:Int) (n+1) u i=cD N r s d (done++L :: Ls) (k:Int) K N (u++F.flatMap fun t=>ow s.Items (pos r.Pats) t.Ids A.L) 0:=by
  intro n u i U hu
  unfold ei
  rw[U]
  simp only[fz,fI,if_false,o,E]
  exact Ju w r s l d _ F (k:Int) K A (fun t p=>by rw[O t p];exact M) Q P u hu
 cases b with
 | false=>
  have q:(B.flatMap fun t=>kW s.Items (pos r.Pats) t.Ids id)=[]:=by
   rw[mm (g:=fun _=>[]) fun t p=>G rfl _ (y t p)];simp
  obtain⟨n,rfl⟩:∃ n,N=n+1:=⟨N - 1,NR⟩
  rw[q,j2]
  exact tail n j 0 (by simp only[o,x,fz];split <;> rfl) NR
 | true=>
  have lp:∀ (Z:List ao) (n:Nat) (D:List ao) (u:List ao),Z.length < n→B=D++Z→u.length+Z.length+F.length*A.L.length≤4294967296 →
    ei N r c m s id h d (done++L :: Ls) F (k:Int) K (B.length:Int) n u (D.length:Int)=cD N r s d (done++L :: Ls) (k:Int) K N (u++(Z.flatMap fun t=>kW s.Items (pos r.Pats) t.Ids id)++F.flatMap fun t=>ow s.Items (pos r.Pats) t.Ids A.L) 0:=by
   intro Z
   induction Z with
   | nil=>
    intro n D u v f hu
    obtain⟨n,rfl⟩:∃ m,n=m+1:=⟨n - 1,by simp at v;omega⟩
    have c1:decide ((D.length:Int) < (B.length:Int))=false:=decide_eq_false (by rw[f];simp)
    rw[tail n u _ (by rw[c1];rfl) (by simpa using hu)]
    simp
   | cons t Z V=>
    intro n D u v f hu
    obtain⟨n,rfl⟩:∃ m,n=m+1:=⟨n - 1,NR⟩
    simp only[gh] at v hu
    have z:B.length=D.length+(Z.length+1):=by rw[f];simp
    have c1:decide ((D.length:Int) < (B.length:Int))=true:=decide_eq_true NR
    have W:k≠0:=fun e=>by rw[I e] at z;simp at z
    obtain⟨D',C⟩:=H W
    have X:IntKind.i64.wrap ((k:Int) - 1)=((k - 1:Nat):Int):=by
     rw[show ((k:Int) - 1)=((k - 1:Nat):Int) by omega]
     exact wr NR NR
    have q:idx (done++L :: Ls) ((k - 1:Nat):Int)=some ⟨B++F⟩:=by
     rw[C,gf,← hk,C,nE]
     simp
    have Y:idx (B++F) (D.length:Int)=some t:=by rw[f,gf];exact eo _ _ _
    have h1:=tu s.Items (pos r.Pats) t.Ids id
    have a7:=y t (by rw[f];simp)
    simp only[ei,c1,if_true,o,x,fz,X,q,Y,DD w r s l u t.Ids id NR NR,wr1 D.length NR]
    have:=V n (D++[t]) (u++kW s.Items (pos r.Pats) t.Ids id) NR (by rw[f];simp) (by rw[gi];omega)
    simp only[gi,gh,gk,ho] at this
    rw[this,ks]
    simp only[gf]
  exact lp B N [] j NR rfl R
theorem DZ {N:Nat} (o:1099000000000≤N) (r:af) (s:ac) (h:SzS r s) (c:aG) (m:aN) (at_ id:Int) (f:List Bool) (d:aP) (O:d.Levels.length=(pos r.Pats).length) (Z:1≤d.Levels.length) (P:(pos r.Pats).length=ak r.Pats) (A:Nat→List Int) (w:∀ k,(A k).length≤4294967296)
  (Q:∀ k,k < d.Levels.length→∃ a i b,idx c.Pos (k:Int)=some a∧idx m.Alphas a=some i∧i.L=A k∧idx f a=some b∧(b=false→∀ row:List Int,row.length=k→kW s.Items (pos r.Pats) row id=[])) :
  ∀ (rest:List aq) (n:Nat) (done:List aq) (B F:List ao),rest.length < n→done.length+rest.length=d.Levels.length→(done.length≠0→∃ D,done=D++[⟨B++F⟩])→(done.length=0→B=[]∧F=[])→(∀ t∈B,t.Ids.length=done.length)→(∀ t∈F,t.Ids.length=done.length)→(∀ i L,rest[i]?=some L→∀ t∈L.Toks,t.Ids.length=done.length+1+i) →
   F.length≤4294967296→uM (fun k=>(A k).length) done.length (rest.map (·.Toks.length)) B.length F.length →
   bC N r c m at_ s id f d n (done++rest) F (done.length:Int)=some ⟨m.Alphas,m.Rules.set at_.toNat ⟨done++m8 s.Items (pos r.Pats) (neg r.Pats) id A done.length rest B F⟩⟩
 | [],n,done,B,F,x,y,R,z,p,q,C,S,T=>by
  obtain⟨n,rfl⟩:∃ m,n=m+1:=⟨n - 1,by simp at x;omega⟩
  simp only[gk,k0] at y
  have a1:=h.pl
  have a6:=et r.Pats
  have E:IntKind.i64.wrap ((d.Levels.length:Int) - 1)=((d.Levels.length - 1:Nat):Int):=by
   rw[show ((d.Levels.length:Int) - 1)=((d.Levels.length - 1:Nat):Int) by omega]
   exact wr NR NR
  have c1:decide ((done.length:Int)≤IntKind.i64.wrap ((d.Levels.length:Int) - 1))=false:=by rw[E];exact decide_eq_false NR
  simp only[bC,c1,fI,if_false,m8]
 | L :: Ls,n,done,B,F,x,y,R,z,p,q,C,S,T=>by
  obtain⟨n,rfl⟩:∃ m,n=m+1:=⟨n - 1,NR⟩
  simp only[gh] at x y
  obtain⟨U,V⟩:=T
  simp only at U V
  have a1:=h.pl
  have a6:=et r.Pats
  have E:IntKind.i64.wrap ((d.Levels.length:Int) - 1)=((d.Levels.length - 1:Nat):Int):=by
   rw[show ((d.Levels.length:Int) - 1)=((d.Levels.length - 1:Nat):Int) by omega]
   exact wr NR NR
  have c1:decide ((done.length:Int)≤IntKind.i64.wrap ((d.Levels.length:Int) - 1))=true:=by rw[E];exact decide_eq_true NR
  obtain⟨a,i,b,G,W,v,H,I⟩:=Q done.length NR
  have a7:=vY s.Items (pos r.Pats) (neg r.Pats) id done.length B F (A done.length)
  have a8:=zL (xs:=s.Items) (ps:=pos r.Pats) (ns:=neg r.Pats) (id:=id) (A:=A done.length) p q
  have X:=Fp (xs:=s.Items) (ps:=pos r.Pats) (ns:=neg r.Pats) (id:=id) (A:=A done.length) (fun e=>(z e).2) p q
  have aa:=GR (xs:=s.Items) (ps:=pos r.Pats) (id:=id) (A:=A done.length) p q
  have ae:(wL s.Items (pos r.Pats) id done.length B F (A done.length)).length=(iS s.Items (pos r.Pats) (neg r.Pats) id done.length B F (A done.length)).length:=by rw[← X,q7]
  have key:∀ M,M=wL s.Items (pos r.Pats) id done.length B F (A done.length)→cD N r s d (done++L :: Ls) (done.length:Int) (bC N r c m at_ s id f d n) N M 0=some ⟨m.Alphas,m.Rules.set at_.toNat ⟨done++m8 s.Items (pos r.Pats) (neg r.Pats) id A done.length (L :: Ls) B F⟩⟩:=by
   intro M hM
   subst hM
   rw[IH o r s h d done L Ls _ O NR P _ aa NR,X]
   have:=DZ o r s h c m at_ id f d O Z P A w Q Ls n (done++[⟨L.Toks++iS s.Items (pos r.Pats) (neg r.Pats) id done.length B F (A done.length)⟩]) L.Toks (iS s.Items (pos r.Pats) (neg r.Pats) id done.length B F (A done.length)) NR (by simp;omega)
    (fun _=>⟨done,rfl⟩) (fun e=>by simp at e) (fun t u=>by have:=C 0 L rfl t u;simpa using this) (fun t u=>by simpa using a8 t u) (fun j M hj t u=>by have:=C (j+1) M (by simpa using hj) t u;simp only[gi,gh,gk];omega) NR
    (by simp only[gi,gh,gk];exact w8 V (hn _) a7)
   simp only[gi,gh,gk,ho,gf,hK,ha] at this
   exact this
  simp only[bC,c1,if_true]
  by_cases g:done.length=0
  ·obtain⟨rfl,rfl⟩:=z g
   have c2:decide ((done.length:Int)=0)=true:=decide_eq_true NR
   have K:decide ((0:Int) < (done.length:Int))=false:=decide_eq_false NR
   have ab:idx c.Pos 0=some a:=by rw[← G,g];rfl
   have h1:=tu s.Items (pos r.Pats) [] id
   have fin:∀ l,l=kW s.Items (pos r.Pats) [] id→hJ N r c m s id f d (done++L :: Ls) [] (done.length:Int) (bC N r c m at_ s id f d n) l=some ⟨m.Alphas,m.Rules.set at_.toNat ⟨done++m8 s.Items (pos r.Pats) (neg r.Pats) id A done.length (L :: Ls) [] []⟩⟩:=by
    intro l hu
    unfold hJ iW
    rw[K]
    simp only[fI,if_false]
    have ag:l.length≤1:=by rw[hu];exact h1
    have:=E4 o r s h c m id f d done L Ls (bC N r c m at_ s id f d n) done.length rfl [] [] a i b G W H I (fun e=>absurd g e) (fun _=>rfl) NR NS NS (by rw[v];exact w _) NS l (by simp;omega)
    simp only[gk,oi] at this
    have h5:ei N r c m s id f d (done++L :: Ls) [] (done.length:Int) (bC N r c m at_ s id f d n) 0 N l 0=_:=this
    rw[h5]
    exact key _ (by unfold wL;rw[if_pos g,hu];simp)
   simp only[c2,if_true,ab,H,fz]
   cases b with
   | true=>
    simp only[if_true,DD o r s h [] [] id (by simp;omega) NS,fz]
    exact fin _ NS
   | false=>
    simp only[fI,if_false]
    exact fin _ (I rfl [] (by simp[g])).symm
  ·have c2:decide ((done.length:Int)=0)=false:=decide_eq_false NR
   have K:decide ((0:Int) < (done.length:Int))=true:=decide_eq_true NR
   obtain⟨D',Y⟩:=R g
   have ad:IntKind.i64.wrap ((done.length:Int) - 1)=((done.length - 1:Nat):Int):=by
    rw[show ((done.length:Int) - 1)=((done.length - 1:Nat):Int) by omega]
    exact wr NR NR
   have e1:idx (done++L :: Ls) ((done.length - 1:Nat):Int)=some ⟨B++F⟩:=by
    rw[Y,gf,nE]
    simp
   rw[if_neg g] at U
   have ah:B.length≤4294967296:=by omega
   have e2:IntKind.i64.wrap (((B++F).length:Int) - (F.length:Int))=(B.length:Int):=by
    rw[gi,show (((B.length+F.length:Nat):Int) - (F.length:Int))=(B.length:Int) by omega]
    exact wr NR NR
   simp only[c2,fI,if_false,fz,hJ,K,if_true,ad,e1,e2,iW]
   rw[E4 o r s h c m id f d done L Ls _ done.length rfl B F a i b G W H I (fun _=>⟨D',Y⟩) (fun e=>absurd e g) NR p q (by rw[v];exact w _) S [] (by rw[v];simp;omega)]
   exact key _ (by unfold wL;rw[if_neg g,v];simp)
theorem Ag {b0:List au}:∀ (as:List cJ) (vs:List bN) (s:List au) (pre:List bN),(ey b0 as vs s).2=true→as.length=vs.length→jN (pre++vs) (ats pre.length as) (jV as)=true
 | [],vs,s,pre,_,_=>rfl
 | a :: as,[],s,pre,_,c=>by simp at c
 | a :: as,v :: vs,s,pre,h,c=>by
  have e:as.length=vs.length:=by simpa using c
  have next:∀ d,(ey b0 as vs d).2=true→jN (pre++v :: vs) (ats (pre.length+1) as) (jV as)=true:=fun d f=>by
   have:=Ag as vs d (pre++[v]) f e
   simpa using this
  unfold ey at h
  unfold ats jV
  by_cases b:a.K=2
  ·rw[if_pos b] at h
   rw[if_pos b,if_pos b]
   by_cases he:bQ a.V v=true
   ·rw[if_pos he] at h
    rw[iw,decide_eq_true_eq] at he
    unfold jN
    have g:idx (pre++v :: vs) (pre.length:Int)=some a.V:=by
     rw[ah (show pre.length < (pre++v :: vs).length by simp),he];simp
    rw[next s h,g,decide_eq_true (show (0:Int)≤(pre.length:Int) by omega),decide_eq_true (show (pre.length:Int) < ((pre++v :: vs).length:Int) by simp;omega)]
    simp
   ·rw[if_neg he] at h;cases h
  ·rw[if_neg b] at h
   rw[if_neg b,if_neg b]
   split at h
   ·split at h
    ·split at h
     ·exact next s h
     ·cases h
    ·exact next _ h
   ·exact next s h
theorem AP {p:ay} {f:aI} {b:List au} (h:(bw p f b).2=true):gp (aW p) f=true:=by
 unfold bw at h
 split at h
 ·rename_i a
  have:=Ag p.Args f.Fields b [] h a.2
  have hk:seq f.Kind p.Kind=true:=by
   have:=a.1
   rw[kZ,decide_eq_true_eq] at this ⊢
   exact this.symm
  show ((seq f.Kind p.Kind && decide ((f.Fields.length:Int)=(p.Args.length:Int))) && jN f.Fields (ats 0 p.Args) (jV p.Args))=true
  rw[hk,decide_eq_true (show (f.Fields.length:Int)=(p.Args.length:Int) by omega)]
  simpa using this
 ·cases h
theorem Ht {N:Nat} (r:1099000000000≤N) (a:av) (f:aI) (h:a.At.length≤1048576) (s:f.Fields.length≤1048576):pK N a f=some (gp a f):=by
 have k:IntKind.i64.wrap ((f.Fields.length:Int) - 1)=(f.Fields.length:Int) - 1:=wr NR NR
 have lp:∀ (n i:Nat),i≤a.At.length→a.At.length - i < n→iF N a f n i=some (jN f.Fields (a.At.drop i) (a.Consts.drop i)):=by
  intro n
  induction n with
  | zero=>intro i _ h;omega
  | succ n l=>
   intro i t u
   simp only[iF,in0,fz,k]
   by_cases b:i < a.At.length
   ·have c1:decide ((i:Int) < (a.At.length:Int))=true:=decide_eq_true NR
    rw[gI b]
    simp only[c1,if_true,ah b,fz,wr1 i NR,l (i+1) NR NR]
    by_cases c:i < a.Consts.length
    ·have c2:decide ((a.Consts.length:Int)≤(i:Int))=false:=decide_eq_false NR
     rw[gI c,jN]
     by_cases m:a.At[i] < 0
     ·simp[show ¬ a.Consts.length≤i by omega,show ¬ 0≤a.At[i] by omega]
     ·by_cases h1:(f.Fields.length:Int)≤a.At[i]
      ·simp[show ¬ a.Consts.length≤i by omega,show 0≤a.At[i] by omega,show ¬ a.At[i]≤(f.Fields.length:Int) - 1 by omega,show ¬ a.At[i] < (f.Fields.length:Int) by omega]
      ·obtain⟨j,d⟩:∃ j:Nat,a.At[i]=(j:Int):=⟨a.At[i].toNat,NR⟩
       have e:j < f.Fields.length:=by omega
       rw[d]
       rw[d] at m h1
       have o:(j:Int)≤(f.Fields.length:Int) - 1:=by omega
       have p:(0:Int)≤(j:Int):=by omega
       simp only[p,o,decide_true,Bool.and_self,hA,c2,decide_false,fI,if_false,fz,ah e,ah c,iw,Option.some.injEq]
       by_cases he:f.Fields[j]=a.Consts[i] <;> simp[he,e]
    ·have c2:decide ((a.Consts.length:Int)≤(i:Int))=true:=decide_eq_true NR
     rw[hz (show a.Consts.length≤i by omega),jN]
     simp[show a.Consts.length≤i by omega]
   ·have c1:decide ((i:Int) < (a.At.length:Int))=false:=decide_eq_false NR
    rw[hz (show a.At.length≤i by omega)]
    simp only[c1,fI,if_false,jN]
 have g:=lp N 0 NR NR
 rw[hR,hR,show ((0:Nat):Int)=0 from rfl] at g
 unfold pK gp
 rw[g]
 have hk:seq a.Kind f.Kind=seq f.Kind a.Kind:=by rw[kZ,kZ];simp[eq_comm]
 rw[hk]
 have q:decide (a.N=(f.Fields.length:Int))=decide ((f.Fields.length:Int)=a.N):=by rw[decide_eq_decide];exact eq_comm
 rw[q]
 cases seq f.Kind a.Kind <;> cases decide ((f.Fields.length:Int)=a.N) <;> simp
theorem sA {xs:List ag} {id:Int}:∀ (ps:List ay) (row:List Int) (l:List au),(bd xs (ps.take (row.length+1)) (row++[id]) l).2=true→∃ p,ps[row.length]?=some p∧gp (aW p) (aF xs id).1=true
 | [],row,l,h=>by
  cases row <;> simp[bd] at h
 | p :: ps,[],l,h=>by
  simp only[gk,ho,NU,ha,bd] at h
  split at h
  ·rename_i a
   exact⟨p,rfl,AP a.2⟩
  ·cases h
 | p :: ps,v :: row,l,h=>by
  simp only[gh,NU,hK,bd] at h
  split at h
  ·have:=sA ps row _ h
   simpa using this
  ·cases h
theorem Fo {xs:List ag} {ps:List ay} {row:List Int} {id:Int} {p:ay} (hp:ps[row.length]?=some p) (h:gp (aW p) (aF xs id).1=false):kW xs ps row id=[]:=by
 unfold kW
 rw[if_neg]
 intro hk
 unfold okB at hk
 rw[gi,gh,gk,ho] at hk
 obtain⟨q,a,b⟩:=sA ps row [] hk
 rw[hp] at a
 cases a
 rw[h] at b
 cases b
theorem LW {N:Nat} (p:1099000000000≤N) (r:af) (c:aG) (m:aN) (at_:Int) (s:ac) (id:Int) (l:List Bool) (row:aP) (n:SzS r s) (q:(pos r.Pats).length=ak r.Pats) (v:idx m.Rules at_=some row) (ok:Bn m.Alphas r c row)
  (w:∀ L,row.Levels[row.Levels.length - 1]?=some L→∀ t∈L.Toks,∀ x∈t.Hits,InR x)
  (y:∀ k,k < row.Levels.length→∃ a i b,idx c.Pos (k:Int)=some a∧idx m.Alphas a=some i∧idx l a=some b∧(b=false→∀ row:List Int,row.length=k→kW s.Items (pos r.Pats) row id=[])) :
  oc N r c m at_ s id (aF s.Items id).1 l=some ⟨m.Alphas,m.Rules.set at_.toNat ⟨(oS s.Items m.Alphas (aF s.Items id).1 id r c row).Levels⟩⟩:=by
 have z:=ok.ne
 have A:=ok.ll
 have F:=n.pl
 have G:=et r.Pats
 have B:IntKind.i64.wrap ((row.Levels.length:Int) - 1)=((row.Levels.length - 1:Nat):Int):=by
  rw[show ((row.Levels.length:Int) - 1)=((row.Levels.length - 1:Nat):Int) by omega]
  exact wr NR NR
 have o:row.Levels.length - 1 < row.Levels.length:=by omega
 have d:row.Levels[row.Levels.length - 1]?=some row.Levels[row.Levels.length - 1]:=gj o
 have hlen:(row.Levels[row.Levels.length - 1]).Toks.length≤4294967296:=xp ok.fit _ (hC.2 ⟨_,hG o,rfl⟩)
 have C:=Cm (M:=jO s.Items (pos r.Pats) (neg r.Pats) (aF s.Items id).1 1 (row.Levels[row.Levels.length - 1]).Toks) d (wh _)
 unfold oc
 rw[v,fz,B,ah o,fz,GU p r s n _ 1 (Or.inl rfl) _ hlen (fun t g=>⟨by have:=ok.ids _ _ d t g;omega,ok.hit _ d t g,w _ d t g⟩),fz,hW]
 have h1:=DZ p r s n c m at_ id l row A z q (uk m.Alphas c) ok.al
  (fun k hk=>by
   obtain⟨a,i,b,h1,h,D,E⟩:=y k hk
   exact⟨a,i,b,h1,h,wi h1 h,D,E⟩)
  (row.Levels.set (row.Levels.length - 1) ⟨jO s.Items (pos r.Pats) (neg r.Pats) (aF s.Items id).1 1 (row.Levels[row.Levels.length - 1]).Toks⟩) N [] [] [] (by rw[List.length_set];omega) NS (fun e=>absurd rfl e) (fun _=>⟨rfl,rfl⟩) NS NS
  (fun i L j t g=>by
   rw[gk,ho,Cl]
   rw[D0] at j
   split at j
   ·rename_i e;subst e
    ·simp only[Option.some.injEq] at j
     subst j
     have h1:=tt (xs:=s.Items) (ps:=pos r.Pats) (ns:=neg r.Pats) (f:=(aF s.Items id).1) (b:=1) (row.Levels[row.Levels.length - 1]).Toks
     have h:t.Ids∈(row.Levels[row.Levels.length - 1]).Toks.map (·.Ids):=by rw[← h1];exact hC.2 ⟨t,g,rfl⟩
     obtain⟨u,hu,e⟩:=hC.1 h
     rw[← e];exact ok.ids _ _ d u hu
   ·exact ok.ids i L j t g)
  NS (by rw[C];exact ok.fit)
 simp only[ha,gk,oi] at h1
 have h:bC N r c m at_ s id l row N (row.Levels.set (row.Levels.length - 1) ⟨jO s.Items (pos r.Pats) (neg r.Pats) (aF s.Items id).1 1 (row.Levels[row.Levels.length - 1]).Toks⟩) [] 0=_:=h1
 rw[h]
 unfold oS fO
 rw[d]
theorem EG {N:Nat} (y:1099000000000≤N) (d:bv) (n:ce) (s:ac) (id:Int) (b:Bool) (as:List bF) (v:List Bool) (z:d.Rules.length≤1048576) :
  ∀ (ws:List aP) (f:List af) (cs:List aG) (k:Nat) (g:List af) (h:List aG) (e:List aP),ws.length < k→d.Rules=g++f→n.Chains=h++cs→g.length=e.length→h.length=e.length→f.length=ws.length→cs.length=ws.length →
   (∀ (i:Nat) (r:af) (c:aG) (w:aP),f[i]?=some r→cs[i]?=some c→ws[i]?=some w→SzS r s∧(pos r.Pats).length=ak r.Pats∧Bn as r c w∧(∀ L,w.Levels[w.Levels.length - 1]?=some L→∀ t∈L.Toks,∀ x∈t.Hits,InR x) ∧
    ∀ k,k < w.Levels.length→∃ a i b,idx c.Pos (k:Int)=some a∧idx as a=some i∧idx v a=some b∧(b=false→∀ row:List Int,row.length=k→kW s.Items (pos r.Pats) row id=[])) →
   gQ N d n s id ((aF s.Items id).1,b) as v k (e++ws) (e.length:Int)=some ⟨as,e++om (oS s.Items as (aF s.Items id).1 id) f cs ws⟩
 | [],f,cs,k,g,h,e,hk,h1,o,l,p,m,q,u=>by
  obtain⟨k,rfl⟩:∃ j,k=j+1:=⟨k - 1,by simp at hk;omega⟩
  have A:f=[]:=qa.1 m
  subst A
  have c1:decide ((e.length:Int) < (d.Rules.length:Int))=false:=decide_eq_false (by rw[h1,← l];simp)
  simp only[gQ,c1,fI,if_false,om]
 | w :: ws,[],cs,k,g,h,e,hk,h1,o,l,p,m,q,u=>by simp at m
 | w :: ws,r :: f,[],k,g,h,e,hk,h1,o,l,p,m,q,u=>by simp at q
 | w :: ws,r :: f,c :: cs,k,g,h,e,hk,h1,o,l,p,m,q,u=>by
  obtain⟨k,rfl⟩:∃ j,k=j+1:=⟨k - 1,NR⟩
  simp only[gh] at hk m q
  have O:d.Rules.length=e.length+(f.length+1):=by rw[h1,← l];simp
  have c1:decide ((e.length:Int) < (d.Rules.length:Int))=true:=decide_eq_true NR
  obtain⟨B,C,D,E,F⟩:=u 0 r c w rfl rfl rfl
  have G:idx d.Rules (e.length:Int)=some r:=by rw[h1,← l];exact eo _ _ _
  have H:idx n.Chains (e.length:Int)=some c:=by rw[o,← p];exact eo _ _ _
  simp only[gQ,c1,if_true,fz,G,H]
  rw[LW y r c ⟨as,e++w :: ws⟩ (e.length:Int) s id v w B C (eo _ _ _) D E F]
  simp only[fz,hW,kU,wr1 e.length NR]
  have:=EG y d n s id b as v z ws f cs k (g++[r]) (h++[c]) (e++[⟨(oS s.Items as (aF s.Items id).1 id r c w).Levels⟩]) NR (by rw[h1];simp) (by rw[o];simp) (by simp[l]) (by simp[p]) NR NR
   (fun i I K w' M a2 a3=>u (i+1) I K w' (by simpa using M) (by simpa using a2) (by simpa using a3))
  simp only[gi,gh,gk,ho] at this
  rw[this,gf]
  rfl
theorem Ef {N:Nat} (p:1099000000000≤N) (d:bv) (n:ce) (m:aN) (s:ac) (id:Int) (f:aI × Bool) (q:∀ a∈n.Alphas,a.At.length≤1048576) (t:n.Alphas.length≤1048576) (r:f.1.Fields.length≤1048576) :
  ∀ (as:List av) (k:Nat) (b:List av) (c is:List bF),as.length < k→n.Alphas=b++as→c.length=b.length→is.length=as.length→(∀ i∈is,i.L.length+1≤4294967296) →
   fk N d n m s id f k (c++is) (b.map fun a=>gp a f.1) (b.length:Int)=gQ N d n s id f (c++d5 f.1 id as is) (n.Alphas.map fun a=>gp a f.1) N m.Rules 0
 | [],k,b,c,is,hk,h1,g,l,o=>by
  obtain⟨k,rfl⟩:∃ j,k=j+1:=⟨k - 1,by simp at hk;omega⟩
  have c1:decide ((b.length:Int) < (n.Alphas.length:Int))=false:=decide_eq_false (by rw[h1];simp)
  have e:n.Alphas=b:=by rw[h1];simp
  simp only[fk,c1,fI,if_false,d5]
  rw[e]
 | a :: as,k,b,c,[],hk,h1,g,l,o=>by simp at l
 | a :: as,k,b,c,i :: is,hk,h1,g,l,o=>by
  obtain⟨k,rfl⟩:∃ j,k=j+1:=⟨k - 1,NR⟩
  simp only[gh] at hk l
  have B:n.Alphas.length=b.length+(as.length+1):=by rw[h1];simp
  have c1:decide ((b.length:Int) < (n.Alphas.length:Int))=true:=decide_eq_true NR
  have u:idx n.Alphas (b.length:Int)=some a:=by rw[h1];exact eo _ _ _
  have v:idx (c++i :: is) (b.length:Int)=some i:=by rw[← g];exact eo _ _ _
  have w:a∈n.Alphas:=by rw[h1];simp
  have x:=o i NS
  have h:=fun y=>Ef p d n m s id f q t r as k (b++[a]) (c++[y]) is NR (by rw[h1];simp) (by simp[g]) NR (fun j z=>o j (by simp[z]))
  simp only[gi,gh,gk,ho,gf,hK,ha,q2,hN,rv] at h
  simp only[fk,c1,if_true,u,fz,Ht p a f.1 (q a w) r,wr1 b.length NR,d5,bO (show (b.map fun a=>gp a f.1).length+[gp a f.1].length≤4294967296 by simp;omega)]
  cases hp:gp a f.1 with
  | true=>
   rw[hp] at h
   simp only[if_true,v,fz,bO (show i.L.length+[id].length≤4294967296 by simpa using x)]
   have A:(c++i :: is).set ((b.length:Int)).toNat (⟨i.L++[id]⟩:bF)=c++⟨i.L++[id]⟩ :: is:=by
    rw[hW,← g,kU,gf];rfl
   rw[A]
   exact h _
  | false=>
   rw[hp] at h
   simp only[fI,if_false]
   exact h i
theorem q8 {f:aI} {id:Int}:∀ (as:List av) (is:List bF),(d5 f id as is).length=is.length
 | [],is=>by simp[d5]
 | a :: as,[]=>by simp[d5]
 | a :: as,i :: is=>by simp[d5,q8 as is]
structure GW (d:bv) (n:ce) (m:aN) (s:ac) (id:Int):Prop where
 ok:Kk d n m s id
 ats:Ats n.Alphas n.Chains d.Rules
 rows:∀ (i:Nat) (r:af) (w:aP),d.Rules[i]?=some r→m.Rules[i]?=some w→SzS r s∧(pos r.Pats).length=ak r.Pats∧∀ L,w.Levels[w.Levels.length - 1]?=some L→∀ t∈L.Toks,∀ x∈t.Hits,InR x
theorem LZ {N:Nat} (b:1099000000000≤N) (d:bv) (n:ce) (m:aN) (s:ac) (id:Int) (h:GW d n m s id):pe N d n m s id=some (yL d n m s id):=by
 have H:=h.ok.al
 have I:=h.ok.rl
 have K:=h.ok.ld
 have p:=h.ok.la
 unfold pe
 rw[ym b s id h.ok.sl h.ok.fl,fz]
 have h1:=Ef b d n m s id (aF s.Items id) h.ok.at_ h.ok.al (Dh h.ok.fl id) n.Alphas N [] [] m.Alphas NR rfl rfl h.ok.la h.ok.il
 simp only[ha,gk,oi,rv] at h1
 have t:fk N d n m s id (aF s.Items id) N m.Alphas [] 0=_:=h1
 rw[t]
 have j:=EG b d n s id (aF s.Items id).2 (d5 (aF s.Items id).1 id n.Alphas m.Alphas) (n.Alphas.map fun a=>gp a (aF s.Items id).1) NR m.Rules d.Rules n.Chains N [] [] [] NR rfl rfl rfl rfl h.ok.ld h.ok.lc
  (fun i r c w g1 g2 g3=>by
   obtain⟨L,l⟩:=h.ok.rows i r c w g1 g2 g3
   obtain⟨u,v,x⟩:=h.rows i r w g1 g3
   refine⟨u,v,l,x,fun k hk=>?_⟩
   obtain⟨y,z⟩:=gx.1 g1
   obtain⟨A,B⟩:=gx.1 g2
   have f:=(h.ats.get i A y).1
   rw[B,z] at f
   have g:k < (pos r.Pats).length:=by rw[← l.ll];exact hk
   have o:k < c.Pos.length:=by rw[f.len];exact g
   have C:=f.get k o g
   obtain⟨a0,M,e⟩:=a8 C
   have D:c.Pos[k].toNat < (d5 (aF s.Items id).1 id n.Alphas m.Alphas).length:=by
    rw[q8,p]
    obtain⟨q,_⟩:=gx.1 e
    exact q
   have E:c.Pos[k]=((c.Pos[k].toNat:Nat):Int):=by omega
   refine⟨c.Pos[k],_,gp (aW (pos r.Pats)[k]) (aF s.Items id).1,ah o,by rw[E];exact ah D,?_,fun F row G=>?_⟩
   ·have:(n.Alphas.map fun a=>gp a (aF s.Items id).1)[c.Pos[k].toNat]?=some (gp (aW (pos r.Pats)[k]) (aF s.Items id).1):=by
     rw[p5,e];rfl
    unfold idx
    rw[if_pos a0]
    exact this
   ·exact Fo (by rw[G];exact gj g) F)
 simp only[ha,gk,oi] at j
 exact j
def FP (ps ns:List ay) (i:Nat) (t:ao):Prop:=t.Ids.length=i+1∧t.Hits.length≤ns.length∧(i+1=ps.length→t.Hits.length=ns.length∧∀ x∈t.Hits,InR x)
def KJ (ps ns:List ay) (j i:Nat) (L:aq):Prop:=L.Toks.length≤j*100 ^ i∧∀ t∈L.Toks,FP ps ns i t
def CT (r:af) (j:Nat) (w:aP):Prop:=w.Levels.length=(pos r.Pats).length∧∀ i L,w.Levels[i]?=some L→KJ (pos r.Pats) (neg r.Pats) j i L
theorem Fi {xs:List ag} {ps ns:List ay} {row:List Int} {id:Int} (c:xs.length≤1048576):∀ t∈o2 xs ps ns row id,FP ps ns row.length t:=by
 intro t a
 unfold o2 at a
 split at a
 ·simp only[hY] at a
  subst a
  refine⟨NS,?_,fun e=>?_⟩
  ·simp only
   split
   ·simp[fj]
   ·simp
  ·simp only[e,if_true]
   refine⟨by simp[fj],fun x b=>?_⟩
   unfold fj at b
   obtain⟨p,_,rfl⟩:=hC.1 b
   have:=xn p (okB xs ps (row++[id])).1 xs
   exact wr NR NR
 ·cases a
theorem vX {xs:List ag} {ps ns:List ay} {row ids:List Int} (b:xs.length≤1048576):∀ t∈gw xs ps ns row ids,FP ps ns row.length t:=by
 intro t a
 unfold gw at a
 obtain⟨v,_,h⟩:=ix.1 a
 exact Fi b t h
theorem Al {xs:List ag} {ps ns:List ay} {id:Int} {k:Nat} {B F:List ao} {A:List Int} (b:xs.length≤1048576) (c:∀ t∈B,t.Ids.length=k) (d:∀ t∈F,t.Ids.length=k):∀ t∈iS xs ps ns id k B F A,FP ps ns k t:=by
 intro t a
 unfold iS at a
 split at a
 ·rename_i e
  subst e
  exact vX b t a
 ·rcases gb.1 a with a | a
  ·obtain⟨u,hu,h⟩:=ix.1 a
   have:=vX b t h
   rwa [c u hu] at this
  ·obtain⟨u,hu,h⟩:=ix.1 a
   have:=vX b t h
   rwa [d u hu] at this
theorem Bl {j k b f a:Nat} (d:j≤40) (g:a≤41) (h:k≠0→b≤j*100 ^ (k - 1)∧f≤100 ^ (k - 1)):(if k=0 then 1 else b+f*a)≤100 ^ k:=by
 split
 ·rename_i e;subst e;exact hn _
 ·rename_i e
  obtain⟨k,rfl⟩:∃ m,k=m+1:=⟨k - 1,NR⟩
  obtain⟨h1,c⟩:=h e
  simp only[w3] at h1 c
  have i:f*a≤100 ^ k*41:=NV c g
  have l:j*100 ^ k≤40*100 ^ k:=Nat.mul_le_mul_right _ d
  rw[Nat.pow_succ]
  omega
theorem A1 {xs:List ag} {ps ns:List ay} {id:Int} {A:Nat→List Int} {j:Nat} (c:j≤40) (d:∀ k,(A k).length≤41) (e:xs.length≤1048576):∀ (ls:List aq) (k:Nat) (B F:List ao),(k≠0→B.length≤j*100 ^ (k - 1)∧F.length≤100 ^ (k - 1))→(∀ t∈B,t.Ids.length=k)→(∀ t∈F,t.Ids.length=k) →
  (∀ i L,ls[i]?=some L→KJ ps ns j (k+i) L)→(m8 xs ps ns id A k ls B F).length=ls.length∧∀ i L,(m8 xs ps ns id A k ls B F)[i]?=some L→KJ ps ns (j+1) (k+i) L
 | [],k,B,F,h1,f,g,a=>⟨rfl,fun i L h=>by simp[m8] at h⟩
 | M :: Ls,k,B,F,h1,f,g,a=>by
  have hm:=j4 (vY xs ps ns id k B F (A k)) (Bl c (d k) h1)
  have l:=Al (xs:=xs) (ps:=ps) (ns:=ns) (id:=id) (A:=A k) e f g
  have o:=a 0 M rfl
  obtain⟨m,b⟩:=o
  simp only[k0] at m b
  have n:=A1 (xs:=xs) (ps:=ps) (ns:=ns) (id:=id) (A:=A) c d e Ls (k+1) M.Toks (iS xs ps ns id k B F (A k)) (fun _=>⟨by simpa using m,by simpa using hm⟩) (fun t h=>(b t h).1) (fun t h=>(l t h).1) (fun i L h=>by
   have:=a (i+1) L (by simpa using h)
   rwa [show k+(i+1)=k+1+i by omega] at this)
  unfold m8
  refine⟨by simp[n.1],fun i L h=>?_⟩
  cases i with
  | zero=>
   simp only[F0,Option.some.injEq] at h
   subst h
   refine⟨?_,fun t h=>?_⟩
   ·simp only[gi,k0,hB];omega
   ·rcases gb.1 h with h | h
    ·exact b t h
    ·exact l t h
  | succ i=>
   have:=n.2 i L (by simpa using h)
   rwa [show k+1+i=k+(i+1) by omega] at this
theorem JC (n:Int):InR (IntKind.i64.wrap n):=by
 have a:(2:Int) ^ 64=18446744073709551616:=by decide
 have b:(2:Int) ^ (64 - 1)=9223372036854775808:=by decide
 unfold InR
 apply wr
 ·simp only[IntKind.wrap,IntKind.bits,IntKind.signed,a,b,hV,decide_eq_true_eq]
  split <;> omega
 ·simp only[IntKind.wrap,IntKind.bits,IntKind.signed,a,b,hV,decide_eq_true_eq]
  split <;> omega
theorem BF {f:aI} {l:List au} {b:Int}:∀ (ns:List ay) (h:List Int),(∀ x∈h,InR x)→∀ x∈kX f l b ns h,InR x
 | p :: ns,y :: h,c,x,a=>by
  unfold kX at a
  rcases hE.1 a with rfl | a
  ·split
   ·exact JC _
   ·exact c y NS
  ·exact BF ns h (fun z d=>c z (by simp[d])) x a
 | [],h,c,x,a=>by
  have:kX f l b [] h=h:=by cases h <;> rfl
  rw[this] at a;exact c x a
 | p :: ns,[],c,x,a=>by simp[kX] at a
theorem FZ {xs:List ag} {ps ns:List ay} {f:aI} {b:Int} {i:Nat} {c:List ao} (h:∀ t∈c,FP ps ns i t):∀ t∈jO xs ps ns f b c,FP ps ns i t:=by
 intro t d
 unfold jO at d
 obtain⟨u,hu,rfl⟩:=hC.1 d
 obtain⟨h1,g,a⟩:=h u hu
 split
 ·exact⟨h1,by simp only[wc];exact g,fun e=>⟨by simp only[wc];exact (a e).1,BF _ _ (a e).2⟩⟩
 ·exact⟨h1,g,a⟩
theorem uX {xs:List ag} {r:af} {f:aI} {b:Int} {j:Nat} {w:aP} (h:CT r j w):CT r j (fO xs (pos r.Pats) (neg r.Pats) f b w):=by
 obtain⟨h1,d⟩:=h
 unfold fO
 split
 ·rename_i L g
  refine⟨by simpa using h1,fun i M c=>?_⟩
  simp only at c
  rw[D0] at c
  split at c
  ·rename_i e
   split at c
   ·simp only[Option.some.injEq] at c
    subst c
    subst e
    obtain⟨a,b⟩:=d _ L g
    exact⟨by simpa[wh] using a,FZ b⟩
   ·cases c
  ·exact d i M c
 ·exact⟨h1,d⟩
theorem ye {as:List bF} {B:Nat} (h:∀ i∈as,i.L.length≤B) (c:aG) (k:Nat):(uk as c k).length≤B:=by
 unfold uk
 split
 ·split
  ·rename_i i a
   obtain⟨_,_,e⟩:=a8 a
   exact h i (jf e)
  ·simp
 ·simp
theorem Fj {xs:List ag} {as:List bF} {f:aI} {id:Int} {r:af} {c:aG} {j:Nat} {w:aP} (a:j≤40) (d:∀ i∈as,i.L.length≤41) (g:xs.length≤1048576) (h:CT r j w):CT r (j+1) (oS xs as f id r c w):=by
 obtain⟨h1,k⟩:=uX (xs:=xs) (f:=f) (b:=1) h
 have:=A1 (xs:=xs) (ps:=pos r.Pats) (ns:=neg r.Pats) (id:=id) (A:=uk as c) a (ye d c) g (fO xs (pos r.Pats) (neg r.Pats) f 1 w).Levels 0 [] [] (fun e=>absurd rfl e) NS NS (fun i L h=>by rw[ho];exact k i L h)
 unfold oS
 exact⟨by rw[this.1];exact h1,fun i L h=>by have:=this.2 i L h;rwa [ho] at this⟩
theorem EY {A:Nat→Nat} {j:Nat} (a:j≤40) (d:∀ k,A k≤41):∀ (ls:List Nat) (k b f:Nat),(k≠0→b≤j*100 ^ (k - 1)∧f≤100 ^ (k - 1))→(∀ i l,ls[i]?=some l→l≤j*100 ^ (k+i))→k+ls.length≤4→uM A k ls b f
 | [],k,b,f,h1,c,e=>trivial
 | l :: ls,k,b,f,h1,c,e=>by
  simp only[gh] at e
  have hm:=Bl a (d k) h1
  have g:=c 0 l rfl
  rw[k0] at g
  have hp:100 ^ k≤1000000:=by
   have:100 ^ k≤100 ^ 3:=Nat.pow_le_pow_right NR NR
   simpa using this
  have m:j*100 ^ k≤40*1000000:=NV a hp
  refine⟨NR,EY a d ls (k+1) l _ (fun _=>⟨by simpa using g,by simpa using hm⟩) (fun i l' h=>?_) NR⟩
  have:=c (i+1) l' (by simpa using h)
  rwa [show k+(i+1)=k+1+i by omega] at this
theorem uG {g:af→aG→aP→aP}:∀ (d:List af) (cs:List aG) (ws:List aP),d.length=ws.length→cs.length=ws.length→(om g d cs ws).length=ws.length∧∀ (i:Nat) (v:aP),(om g d cs ws)[i]?=some v→∃ (r:af) (c:aG) (w:aP),d[i]?=some r∧cs[i]?=some c∧ws[i]?=some w∧v=g r c w
 | [],cs,[],_,_=>⟨by simp[om],fun i v h=>by simp[om] at h⟩
 | r :: d,[],w :: ws,_,h=>by simp at h
 | r :: d,c :: cs,w :: ws,h1,f=>by
  have e:=uG (g:=g) d cs ws (by simpa using h1) (by simpa using f)
  unfold om
  refine⟨by simp[e.1],fun i v h=>?_⟩
  cases i with
  | zero=>exact⟨r,c,w,rfl,rfl,rfl,by simpa using h.symm⟩
  | succ i=>
   obtain⟨a,b,j,k,l,m,n⟩:=e.2 i v (by simpa using h)
   exact⟨a,b,j,by simpa using k,by simpa using l,by simpa using m,n⟩
theorem sR {f:aI} {id:Int} {B:Nat}:∀ (as:List av) (is:List bF),(∀ i∈is,i.L.length≤B)→∀ i∈d5 f id as is,i.L.length≤B+1
 | [],is,h,i,b=>by
  have:d5 f id [] is=is:=by cases is <;> rfl
  rw[this] at b
  have:=h i b;omega
 | a :: as,[],h,i,b=>by simp[d5] at b
 | a :: as,y :: is,h,i,b=>by
  unfold d5 at b
  rcases hE.1 b with rfl | b
  ·have:=h y NS
   split
   ·simpa using this
   ·omega
  ·exact sR as is (fun z c=>h z (by simp[c])) i b
structure n8 (d:bv) (n:ce) (j:Nat) (m:aN):Prop where
 la:m.Alphas.length=n.Alphas.length
 lr:m.Rules.length=d.Rules.length
 al:∀ i∈m.Alphas,i.L.length≤j
 rows:∀ (i:Nat) (r:af) (w:aP),d.Rules[i]?=some r→m.Rules[i]?=some w→CT r j w
theorem t7 {d:bv} {n:ce} {m:aN} {s:ac} {id:Int} {j:Nat} (k:j≤40) (l:s.Items.length≤1048576) (o:n.Chains.length=d.Rules.length) (h:n8 d n j m):n8 d n (j+1) (yL d n m s id):=by
 have h1:=sR (f:=(aF s.Items id).1) (id:=id) n.Alphas m.Alphas h.al
 have a:=uG (g:=oS s.Items (d5 (aF s.Items id).1 id n.Alphas m.Alphas) (aF s.Items id).1 id) d.Rules n.Chains m.Rules h.lr.symm (by rw[o,h.lr])
 refine⟨?_,?_,h1,?_⟩
 ·show (d5 _ _ _ _).length=_
  rw[q8];exact h.la
 ·show (om _ _ _ _).length=_
  rw[a.1];exact h.lr
 ·intro i r v b p
  obtain⟨t,c,w,e,a2,a3,rfl⟩:=a.2 i v p
  rw[b] at e
  cases e
  exact Fj k (fun y q=>by have:=h1 y q;omega) l (h.rows i r w b a3)
theorem yz {d:bv} {n:ce} (h:Ats n.Alphas n.Chains d.Rules):n8 d n 0 (l5 n):=by
 unfold l5
 refine⟨NS,by simp[h.len],fun i a=>?_,fun i r w l f=>?_⟩
 ·rw[(List.mem_replicate.1 a).2];simp
 ·simp only[p5,vj] at f
  obtain⟨c,b,rfl⟩:=f
  obtain⟨a,m⟩:=gx.1 l
  obtain⟨o,b⟩:=gx.1 b
  have g:=(h.get i o a).1
  rw[b,m] at g
  refine⟨by simp only[qS,List.length_replicate];exact g.len,fun k L j=>?_⟩
  simp only[qS] at j
  obtain⟨_,e⟩:=gx.1 j
  rw[O7] at e
  subst e
  exact⟨NS,NS⟩
theorem uU {d:bv} {m:aN} {s:ac} {id:Int} {j:Nat} (C:iP d=true) (D:rb d) (hs:s.Items.length≤40) (E:∀ x∈s.Items,x.F.Fields.length≤1048576) (Q:j≤40) (h:n8 d (bS d) j m):GW d (bS d) m s id:=by
 have F:=mT C
 obtain⟨_,v,ae⟩:=ri F
 obtain⟨⟨R,z2⟩,z3,z4⟩:=tc F
 have S:=sR (f:=(aF s.Items id).1) (id:=id) (bS d).Alphas m.Alphas h.al
 have G:∀ i∈d5 (aF s.Items id).1 id (bS d).Alphas m.Alphas,i.L.length≤41:=fun i g=>by have:=S i g;omega
 have T:d.Rules.length≤1048576:=D.2.1
 have n:∀ r∈d.Rules,r.Pats.length≤6∧1≤(pos r.Pats).length∧(pos r.Pats).length≤3∧(pos r.Pats).length=ak r.Pats∧pos r.Pats=r.Pats.take (ak r.Pats)∧dm r.Pats≤1048576∧∀ p∈r.Pats,p.Args.length≤1048576:=fun r n=>by
  have y:=ng C r n
  have hp:iK r.Pats=true:=by
   unfold iY at y
   simp only[gm] at y
   exact y.2.2.1
  have U:=sV hp
  have V:(pos r.Pats).length=ak r.Pats:=pq r.Pats
  unfold iK at hp
  simp only[gm,decide_eq_true_eq] at hp
  obtain⟨⟨_,W⟩,⟨p2,p3⟩,_⟩:=hp
  obtain⟨_,⟨_,g1⟩,_,_,g2,_⟩:=D.2.2 r n
  exact⟨W,NR,NR,V,U,g2,fun p hp=>(g1 p hp).2.1⟩
 have H:∀ (i:Nat) (r:af),d.Rules[i]?=some r→r∈d.Rules:=fun i r e=>jf e
 refine⟨⟨NR,E,fun a X=>(z2 a X).2,R,by rw[h.lr];exact T,h.la,by rw[v.len,h.lr],h.lr.symm,fun i g=>by have:=h.al i g;omega,fun i r c w g1 g2 g3=>?_⟩,v,fun i r w g1 g3=>?_⟩
 ·obtain⟨Y,Z,q3,I,K,z,A⟩:=n r (H i r g1)
  obtain⟨M,o⟩:=h.rows i r w g1 g3
  refine⟨⟨NR,z,A⟩,⟨NR,M,fun i L b t u=>((o i L b).2 t u).1,fun L b t u=>(((o _ L b).2 t u).2.2 NR).1,fun k hk=>?_,?_,fun k=>by have:=ye G c k;omega⟩⟩
  ·obtain⟨g,a6⟩:=gx.1 g1
   obtain⟨a7,aa⟩:=gx.1 g2
   have B:=(v.get i a7 g).1
   rw[aa,a6] at B
   have N:k < (pos r.Pats).length:=by omega
   have O:k < c.Pos.length:=by rw[B.len];exact N
   have e1:=B.get k O N
   obtain⟨a0,a1,e⟩:=a8 e1
   obtain⟨q,_⟩:=gx.1 e
   have ab:c.Pos[k].toNat < (d5 (aF s.Items id).1 id (bS d).Alphas m.Alphas).length:=by rw[q8,h.la];exact q
   have ad:c.Pos[k]=((c.Pos[k].toNat:Nat):Int):=by omega
   exact⟨c.Pos[k],_,ah O,by rw[ad];exact ah ab⟩
  ·refine EY Q (ye G c) _ 0 0 0 (fun e=>absurd rfl e) (fun i l P=>?_) (by simp;omega)
   rw[p5,vj] at P
   obtain⟨L,b,rfl⟩:=P
   rw[ho]
   exact (o i L b).1
 ·obtain⟨Y,Z,q3,I,K,z,A⟩:=n r (H i r g1)
  obtain⟨M,o⟩:=h.rows i r w g1 g3
  exact⟨⟨NR,z,A,NR,E,K⟩,I,fun L b t u=>(((o _ L b).2 t u).2.2 NR).2⟩
theorem IR {N:Nat} (p:ce) (b:List aP) (a:Nat) (K:List aP→Int→Option aN) (c:a < p.Chains.length) (f:p.Chains[a].Pos.length≤1048576) (g:b.length≤a) (j:p.Chains.length≤1048576):∀ (n i:Nat),i≤p.Chains[a].Pos.length→p.Chains[a].Pos.length - i < n →
  jM N p b a K n (List.replicate i ⟨[]⟩) i=K (b++[qS p.Chains[a]]) ((a+1:Nat):Int):=by
 intro n
 induction n with
 | zero=>intro i _ h;omega
 | succ n d=>
  intro i k l
  simp only[jM,ah c,fz]
  by_cases m:i < p.Chains[a].Pos.length
  ·have c1:decide ((i:Int) < (p.Chains[a].Pos.length:Int))=true:=decide_eq_true NR
   simp only[c1,if_true,bO (show (List.replicate i (⟨[]⟩:aq)).length+[(⟨[]⟩:aq)].length≤4294967296 by simp;omega),fz,wr1 i NR]
   have:=d (i+1) NR NR
   rw[O8] at this
   exact this
  ·have c1:decide ((i:Int) < (p.Chains[a].Pos.length:Int))=false:=decide_eq_false NR
   have e:i=p.Chains[a].Pos.length:=by omega
   simp only[c1,fI,if_false,bO (show b.length+[(⟨List.replicate i ⟨[]⟩⟩:aP)].length≤4294967296 by simp;omega),fz,wr1 a NR]
   rw[e];rfl
theorem Jd {N:Nat} (g:1099000000000≤N) (p:ce) (as:List bF) (d:p.Chains.length≤1048576) (hp:∀ c∈p.Chains,c.Pos.length≤1048576):∀ (n i:Nat),i≤p.Chains.length→p.Chains.length - i < n →
  fG N p as n ((p.Chains.take i).map qS) i=some ⟨as,p.Chains.map qS⟩:=by
 intro n
 induction n with
 | zero=>intro i _ h;omega
 | succ n e=>
  intro i j k
  simp only[fG]
  by_cases a:i < p.Chains.length
  ·have c1:decide ((i:Int) < (p.Chains.length:Int))=true:=decide_eq_true NR
   have hm:=hp _ (hG a)
   have:=IR (N:=N) p ((p.Chains.take i).map qS) i (fG N p as n) a hm (by simp;omega) d N 0 NR NR
   have b:=e (i+1) NR NR
   have f:(p.Chains.take (i+1)).map qS=(p.Chains.take i).map qS++[qS p.Chains[i]]:=by
    rw[O9 a,q2];rfl
   rw[f] at b
   simp only[c1,if_true];rw[← b];exact this
  ·have c1:decide ((i:Int) < (p.Chains.length:Int))=false:=decide_eq_false NR
   simp only[c1,fI,if_false]
   rw[NW NR]
theorem IX {N:Nat} (p:ce) (c:p.Alphas.length≤1048576):∀ (n i:Nat),i≤p.Alphas.length→p.Alphas.length - i < n →
  jD N p n (List.replicate i ⟨[]⟩) i=fG N p (List.replicate p.Alphas.length ⟨[]⟩) N [] 0:=by
 intro n
 induction n with
 | zero=>intro i _ h;omega
 | succ n a=>
  intro i d e
  simp only[jD]
  by_cases f:i < p.Alphas.length
  ·have c1:decide ((i:Int) < (p.Alphas.length:Int))=true:=decide_eq_true NR
   simp only[c1,if_true,bO (show (List.replicate i (⟨[]⟩:bF)).length+[(⟨[]⟩:bF)].length≤4294967296 by simp;omega),fz,wr1 i NR]
   have:=a (i+1) NR NR
   rw[O8] at this
   exact this
  ·have c1:decide ((i:Int) < (p.Alphas.length:Int))=false:=decide_eq_false NR
   have b:i=p.Alphas.length:=by omega
   simp only[c1,fI,if_false]
   rw[b]
theorem Ic {N:Nat} (d:1099000000000≤N) (p:ce) (e:p.Alphas.length≤1048576) (f:p.Chains.length≤1048576) (hp:∀ c∈p.Chains,c.Pos.length≤1048576):pJ N p=some (l5 p):=by
 have a:=IX (N:=N) p e N 0 NR NR
 have b:=Jd d p (List.replicate p.Alphas.length ⟨[]⟩) f hp N 0 NR NR
 unfold pJ l5;exact a.trans b
theorem GQ {N:Nat} (a:1099000000000≤N) (f:aI) (h:AL f):mQ N f=some (wB f):=by
 obtain⟨h1,d,b⟩:=h
 unfold mQ wB
 have c:fF N f N 0=some (f.Fields.all tR):=lp0 a f.Fields NR (fF N f) (fun t=>some (t.all tR)) (fun n i x t g1 g2 g3 g4 g5 g6 g7=>by
  simp only[fF,g5,if_true,g4,fz,K0 (show 1048578≤N by omega) x (b x g2),g6,g7,n0]
  cases tR x <;> simp) (fun n i g1 g2=>by simp only[fF,g2,fI,if_false];rfl)
 have d1:decide ((5:Int) < (f.Fields.length:Int)) = !decide (f.Fields.length≤5):=by rw[← decide_not,decide_eq_decide];omega
 simp only[qP a _ h1,fz,d1,c]
 cases gy f.Kind <;> cases decide (f.Fields.length≤5) <;> simp
theorem Ea {N:Nat} (f:1099000000000≤N) (x y:aI) (g:x.Fields.length≤4294967296):kI N x y=some (decide (x=y)):=by
 have e:cG N x.Fields y.Fields=some (decide (x.Fields=y.Fields)):=by
  unfold cG
  by_cases c:x.Fields.length=y.Fields.length
  ·rw[if_neg (by simp;omega)]
   refine (qn (bD N x.Fields y.Fields) x.Fields y.Fields c NR (fun a b=>some (decide (a=b))) (fun a _ b _=>rfl) (fun k i=>by simp only[bD,iw,fz]) N 0 NR NR).trans ?_
   simp
  ·rw[if_pos (by simp;omega)]
   have : ¬ x.Fields=y.Fields:=fun e=>c (by rw[e])
   simp[this]
 unfold kI
 simp only[e,fz,sf,kZ]
 obtain⟨a,b⟩:=x;obtain⟨c,d⟩:=y
 simp only[aI.mk.injEq,Bool.decide_and]
theorem Cv {α:Type} {xs:List α} {i:Nat} (h:i≤xs.length):ssl xs 0 (i:Int)=some (xs.take i):=by
 unfold ssl
 have:(0:Int)≤0∧(0:Int)≤(i:Int)∧(i:Int)≤(xs.length:Int):=by omega
 simp[h]
theorem xy {N:Nat} (b:1099000000000≤N) (s:ac) (h:mA s):jg N s=some (gl s):=by
 obtain⟨h1,f⟩:=h
 unfold jg gl
 have d1:decide ((40:Int) < (s.Items.length:Int)) = !decide (s.Items.length≤40):=by rw[← decide_not,decide_eq_decide];omega
 simp only[in1,fz,d1]
 by_cases c:1≤s.Next∧s.Next≤1000000
 ·have lp:∀ (n i:Nat),i≤s.Items.length→s.Items.length - i < n→dD N s n i=some (ny s.Next (s.Items.take i) (s.Items.drop i)):=by
   intro n
   induction n with
   | zero=>intro i _ h;omega
   | succ n g=>
    intro i j hm
    simp only[dD]
    by_cases a:i < s.Items.length
    ·have c1:decide ((i:Int) < (s.Items.length:Int))=true:=decide_eq_true NR
     have d:=f _ (hG a)
     have l:IntKind.i64.wrap (s.Next - 1)=s.Next - 1:=wr NR NR
     have o:(if decide (0 < (i:Int))=true then (idx s.Items (IntKind.i64.wrap ((i:Int) - 1))).bind fun p=>some (decide (s.Items[i].Id≤p.Id)) else some false)=some (!(m9 (s.Items.take i) s.Items[i].Id)):=by
      by_cases q:0 < i
      ·have r:IntKind.i64.wrap ((i:Int) - 1)=((i - 1:Nat):Int):=by rw[wr NR NR];omega
       unfold m9;rw[Gt q j,decide_eq_true (show (0:Int) < (i:Int) by omega),r]
       simp only[if_true,ah (show i - 1 < s.Items.length by omega),fz]
       rw[← decide_not];congr 1;rw[decide_eq_decide];omega
      ·have:i=0:=by omega
       subst this
       simp[m9]
     have u:eG N (i:Int) (dD N s n) s.Items[i] (s.Items.take i) N 0=some ((((s.Items.take i).all fun y=>!decide (s.Items[i].F=y.F))) && ny s.Next (s.Items.take (i+1)) (s.Items.drop (i+1))):=by
      refine lp0 b (s.Items.take i) (by rw[List.length_take];omega) (eG N (i:Int) (dD N s n) s.Items[i] (s.Items.take i)) (fun t=>some ((t.all fun y=>!decide (s.Items[i].F=y.F)) && ny s.Next (s.Items.take (i+1)) (s.Items.drop (i+1)))) (fun m k y t g1 g2 g3 g4 g5 g6 g7=>?_) (fun m k g1 g2=>?_)
      ·simp only[eG,g5,if_true,g4,fz,Ea b s.Items[i].F y.F (by have:=d.2.1;omega),g6,g7,n0]
       cases decide (s.Items[i].F=y.F) <;> simp
      ·simp only[eG,g2,fI,if_false,wr1 i NR,g (i+1) NR NR];rfl
     have d2:decide (s.Items[i].Id≤s.Next - 1)=decide (s.Items[i].Id < s.Next):=by rw[decide_eq_decide];omega
     have v:s.Items.take (i+1)=s.Items.take i++[s.Items[i]]:=O9 a
     rw[gI a,ny,← v]
     simp only[c1,if_true,ah a,fz,GQ b _ d,in1,l,d2,o,Cv (show i≤s.Items.length by omega),u]
     cases wB s.Items[i].F with
     | false=>simp
     | true=>
      cases (decide (1≤s.Items[i].Id) && decide (s.Items[i].Id < s.Next)) with
      | false=>simp
      | true=>
       cases (m9 (s.Items.take i) s.Items[i].Id) <;> simp
    ·have c1:decide ((i:Int) < (s.Items.length:Int))=false:=decide_eq_false NR
     rw[hz NR]
     simp only[c1,fI,if_false];rfl
  have e:=lp N 0 NR NR
  rw[List.take_zero,hR,show ((0:Nat):Int)=0 from rfl] at e
  rw[e,decide_eq_true c.1,decide_eq_true c.2]
  cases decide (s.Items.length≤40) <;> simp
 ·have:(decide (1≤s.Next) && decide (s.Next≤1000000))=false:=by
   rw[Bool.eq_false_iff]
   intro h
   simp only[gm,decide_eq_true_eq] at h
   exact c h
  rw[this]
  cases decide (s.Items.length≤40) <;> simp
theorem La {N:Nat} (d:1099000000000≤N) (x y:List Int) (f:x.length≤4294967296):nQ N x y=some (decide (x=y)):=by
 unfold nQ
 by_cases c:x.length=y.length
 ·rw[if_neg (by simp;omega)]
  refine (qn (iQ N x y) x y c NR (fun a b=>some (decide (a=b))) (fun a _ b _=>rfl) (fun k i=>rfl) N 0 NR NR).trans ?_
  simp
 ·rw[if_pos (by simp;omega)]
  have : ¬ x=y:=fun e=>c (by rw[e])
  simp[this]
theorem IY {N:Nat} (c:1099000000000≤N) (p:ay) (d:p.Args.length≤1048576):nX N p=some (aW p):=by
 have lp:∀ (n i:Nat) (cs:List bN) (as:List Int),i≤p.Args.length→p.Args.length - i < n→cs.length≤i→as.length≤i →
   fW N p n cs as i=some ⟨p.Kind,(p.Args.length:Int),cs++jV (p.Args.drop i),as++ats i (p.Args.drop i)⟩:=by
  intro n
  induction n with
  | zero=>intro i _ _ _ h;omega
  | succ n a=>
   intro i cs as e f h1 g
   by_cases b:i < p.Args.length
   ·have c1:decide ((i:Int) < (p.Args.length:Int))=true:=decide_eq_true NR
    rw[gI b]
    simp only[fW,c1,if_true,ah b,fz,wr1 i NR,jV,ats]
    by_cases hk:p.Args[i].K=2
    ·simp only[hk,decide_true,if_true,bO (show cs.length+[p.Args[i].V].length≤4294967296 by simp;omega),bO (show as.length+[(i:Int)].length≤4294967296 by simp;omega),fz]
     rw[a (i+1) _ _ NR NR (by simp;omega) (by simp;omega)];simp
    ·simp only[hk,decide_false,fI,if_false]
     exact a (i+1) _ _ NR NR NR NR
   ·have c1:decide ((i:Int) < (p.Args.length:Int))=false:=decide_eq_false NR
    rw[hz NR]
    simp only[fW,c1,fI,if_false,jV,ats,j2]
 have:=lp N 0 [] [] NR NR NS NS
 unfold nX aW
 simpa using this
theorem J1 {N:Nat} (m:1099000000000≤N) (x y:av) (h:kT x):lx N x y=some (decide (x=y)):=by
 unfold lx
 simp only[La m _ _ (show x.At.length≤4294967296 by have:=h.2;omega),HM m _ _ (show x.Consts.length≤4294967296 by have:=h.1;omega),fz,sf,kZ]
 obtain⟨a,b,c,d⟩:=x;obtain⟨e,f,g,k⟩:=y
 congr 1
 rw[Bool.eq_iff_iff]
 simp only[av.mk.injEq,gm,decide_eq_true_eq]
 constructor
 ·rintro⟨⟨⟨h1,i⟩,j⟩,l⟩;exact⟨h1,i,l,j⟩
 ·rintro⟨h1,i,l,j⟩;exact⟨⟨⟨h1,i⟩,j⟩,l⟩
theorem KC {N:Nat} (c:1099000000000≤N) (as:List av) (cs:List aG) (a:av) (f:as.length≤4194304) (h:∀ a∈as,kT a) :
  nN N ⟨as,cs⟩ a=some ((bZ as a).1,⟨(bZ as a).2,cs⟩):=by
 unfold nN
 have lp:∀ (n i:Nat),i≤as.length→as.length - i < n→fV N ⟨as,cs⟩ a n i =
   some (match (as.drop i).findIdx? (fun x=>decide (x=a)) with | some j=>((i+j:Nat):Int) | none=>(as.length:Int),⟨match (as.drop i).findIdx? (fun x=>decide (x=a)) with | some j=>as | none=>as++[a],cs⟩):=by
  intro n
  induction n with
  | zero=>intro i _ h;omega
  | succ n d=>
   intro i g k
   by_cases b:i < as.length
   ·have c1:decide ((i:Int) < (as.length:Int))=true:=decide_eq_true NR
    rw[gI b,List.findIdx?_cons]
    simp only[fV,c1,if_true,ah b,fz,J1 c _ _ (h _ (hG b)),wr1 i NR,d (i+1) NR NR]
    by_cases he:as[i]=a
    ·simp[he]
    ·simp only[he,decide_false,fI,if_false]
     cases (as.drop (i+1)).findIdx? (fun x=>decide (x=a)) with
     | none=>rfl
     | some j=>simp only[Option.map_some];rw[show i+(j+1)=i+1+j by omega]
   ·have c1:decide ((i:Int) < (as.length:Int))=false:=decide_eq_false NR
    rw[hz NR]
    simp only[fV,c1,fI,if_false,bO (show as.length+[a].length≤4294967296 by simp;omega),fz,List.findIdx?_nil]
    have e:IntKind.i64.wrap (((as++[a]).length:Int) - 1)=(as.length:Int):=by
     rw[wr (by simp only[gi,gh,gk];omega) (by simp only[gi,gh,gk];omega)];simp only[gi,gh,gk];omega
    rw[e]
 have:=lp N 0 NR NR
 rw[show ((0:Nat):Int)=0 from rfl,hR] at this
 rw[this]
 unfold bZ
 cases as.findIdx? (fun x=>decide (x=a)) <;> simp
theorem Ms {N:Nat} (b:1099000000000≤N) (d:bv) (h:yu d.Rules):pT N d=some (bS d):=by
 obtain⟨h1,v,w⟩:=h
 unfold pT bS
 refine lp' b d.Rules NR (fun n (s:List av × List aG) i=>eC N d n s.1 s.2 i) (fun t s=>some (eX s.1 s.2 t)) (fun s t=>s.1.length+o4 t≤1048576∧s.2.length+t.length≤1048576∧∀ a∈s.1,kT a) ([],[]) ⟨by simpa using v,by simpa using h1,NS⟩ (fun n s i r t g1 g2 g3 g4 g5 g6 g x=>?_) (fun n s i g1 g2 g=>?_)
 ·obtain⟨y,i2,i3⟩:=g
  rw[np] at y
  simp only[gh] at i2
  simp only[eC,g5,if_true,eX]
  have key:∀ (as:List av),as.length+r.Pats.length+o4 t≤1048576→(∀ a∈as,kT a)→fv N d s.2 (i:Int) (eC N d n) N as [] [] 0=some (eX (cg as [] [] r.Pats).1 (s.2++[⟨(cg as [] [] r.Pats).2.1,(cg as [] [] r.Pats).2.2⟩]) t):=by
   intro as z A
   refine lp' b r.Pats NR (fun m (u:List av × List Int × List Int) k=>fv N d s.2 (i:Int) (eC N d n) m u.1 u.2.1 u.2.2 k) (fun l u=>some (eX (cg u.1 u.2.2 u.2.1 l).1 (s.2++[⟨(cg u.1 u.2.2 u.2.1 l).2.1,(cg u.1 u.2.2 u.2.1 l).2.2⟩]) t))
    (fun u l=>u.1.length+l.length+o4 t≤1048576∧u.2.1.length+u.2.2.length+l.length≤1048576∧∀ a∈u.1,kT a) (as,[],[]) ⟨z,by simp;omega,A⟩ (fun m u k p l f1 f2 f3 f4 f5 f6 e j=>?_) (fun m u k f1 f2 e=>?_)
   ·obtain⟨f,o,c⟩:=e
    simp only[gh] at f o
    have hp:=w r g2 p f2
    have B:=(pW u.1 (aW p)).1
    have q:=si c (uA hp)
    simp only[fv,g4,f5,if_true,f4,fz,IY b p hp,KC b u.1 s.2 _ (show u.1.length≤4194304 by omega) c,f6,cg]
    cases C:p.Not with
    | true=>
     simp only[if_true,bO (show u.2.1.length+[(bZ u.1 (aW p)).1].length≤4294967296 by simp;omega),fz]
     exact j ((bZ u.1 (aW p)).2,u.2.1++[(bZ u.1 (aW p)).1],u.2.2) ⟨by simp only;omega,by simp;omega,q⟩
    | false=>
     simp only[fI,if_false,bO (show u.2.2.length+[(bZ u.1 (aW p)).1].length≤4294967296 by simp;omega),fz]
     exact j ((bZ u.1 (aW p)).2,u.2.1,u.2.2++[(bZ u.1 (aW p)).1]) ⟨by simp only;omega,by simp;omega,q⟩
   ·obtain⟨f,o,c⟩:=e
    simp only[fv,g4,f2,fI,if_false,bO (show s.2.length+[(⟨u.2.2,u.2.1⟩:aG)].length≤4294967296 by simp;omega),fz,g6,cg]
    exact x (u.1,s.2++[⟨u.2.2,u.2.1⟩]) ⟨by simp only[gk] at f ⊢;omega,by simp;omega,c⟩
  exact key s.1 NR i3
 ·simp only[eC,g2,fI,if_false];rfl
def vI (d:bv) (n:ce) (nx:Int):List ag→List ag→aN→aN
 | _,[],m=>m
 | done,x :: t,m=>vI d n nx (done++[x]) t (yL d n m ⟨done++[x],nx⟩ x.Id)
theorem Gp {d:bv} {n:ce} {nx:Int} (a:n.Chains.length=d.Rules.length):∀ (rest done:List ag) (m:aN),done.length+rest.length≤40→n8 d n done.length m→n8 d n (done.length+rest.length) (vI d n nx done rest m)
 | [],done,m,_,h=>h
 | x :: t,done,m,b,h=>by
  simp only[gh] at b
  have h1:=t7 (s:=⟨done++[x],nx⟩) (id:=x.Id) NR (by simp;omega) a h
  have:=Gp (nx:=nx) a t (done++[x]) _ (by simp;omega) (by simpa using h1)
  unfold vI
  simpa[G0,Cl 1] using this
def cmp (a b:Int):Int:=if a < b then -1 else if b < a then 1 else 0
theorem B1 (N:Nat) (a b:Int):dd N a b=some (cmp a b):=by
 unfold dd jw cmp
 by_cases h1:a < b
 ·simp[h1]
 ·by_cases c:b < a <;> simp[h1,c]
theorem Kq {N:Nat} (i:1048578≤N) (a b:Int):gE N [a,b]=some (if a=0 then b else a):=by
 obtain⟨n,rfl⟩:∃ n,N=n+3:=⟨N - 3,NR⟩
 unfold gE
 have d:IntKind.i64.wrap ((0:Int)+1)=1:=by decide
 have e:IntKind.i64.wrap ((1:Int)+1)=2:=by decide
 have i0:idx [a,b] 0=some a:=rfl
 have f:idx [a,b] 1=some b:=rfl
 have g:(([a,b]:List Int).length:Int)=2:=rfl
 simp only[gn,d,e,i0,f,g,fz]
 by_cases c:a=0
 ·by_cases h:b=0 <;> simp[c,h]
 ·simp[c]
def mG:List Int→List Int→Int
 | [],[]=>0
 | [],_ :: _=>-1
 | _ :: _,[]=>1
 | a :: x,b :: y=>if a=b then mG x y else if a < b then -1 else 1
theorem yU:∀ x y,mG y x = - mG x y
 | [],[]=>rfl
 | [],_ :: _=>rfl
 | _ :: _,[]=>rfl
 | a :: x,b :: y=>by
  unfold mG
  by_cases h:a=b
  ·rw[if_pos h,if_pos h.symm,yU x y]
  ·rw[if_neg h,if_neg fun e=>h e.symm]
   by_cases c:a < b
   ·rw[if_pos c,if_neg NR];rfl
   ·rw[if_neg c,if_pos NR]
theorem oM:∀ x y,mG x y=0↔x=y
 | [],[]=>by simp[mG]
 | [],_ :: _=>by simp[mG]
 | _ :: _,[]=>by simp[mG]
 | a :: x,b :: y=>by
  unfold mG
  by_cases h:a=b
  ·rw[if_pos h,oM x y,h];simp
  ·rw[if_neg h]
   by_cases c:a < b
   ·rw[if_pos c];simp[h]
   ·rw[if_neg c];simp[h]
theorem Ba:∀ x y z,mG x y < 0→mG y z < 0→mG x z < 0
 | [],[],z,h,_=>absurd h (by simp[mG])
 | [],_ :: _,[],_,h=>absurd h (by simp[mG])
 | [],_ :: _,_ :: _,_,_=>by simp[mG]
 | _ :: _,[],_,h,_=>absurd h (by simp[mG])
 | _ :: _,_ :: _,[],_,h=>absurd h (by simp[mG])
 | a :: x,b :: y,d :: z,h1,c=>by
  unfold mG at h1 c ⊢
  by_cases f:a=b
  ·rw[if_pos f] at h1
   subst f
   by_cases e:a=d
   ·rw[if_pos e] at c ⊢
    exact Ba x y z h1 c
   ·rw[if_neg e] at c ⊢;exact c
  ·rw[if_neg f] at h1
   have:a < b:=by
    by_cases h:a < b
    ·exact h
    ·rw[if_neg h] at h1;simp at h1
   by_cases e:b=d
   ·subst e
    rw[if_neg f,if_pos this];decide
   ·rw[if_neg e] at c
    have g:b < d:=by
     by_cases h:b < d
     ·exact h
     ·rw[if_neg h] at c;simp at c
    rw[if_neg NR,if_pos NR];decide
def nj {α β:Type} (p:α→β→Bool):List α→List β→Bool
 | [],[]=>true
 | a :: l,b :: m=>p a b && nj p l m
 | _,_=>false
theorem vL {α β:Type} {p:α→β→Bool}:∀ {l:List α} {m:List β},nj p l m=true→l.length=m.length
 | [],[],_=>rfl
 | a :: l,b :: m,h=>by
  simp only[nj,gm] at h
  simp[vL h.2]
 | [],_ :: _,h=>by cases h
 | _ :: _,[],h=>by cases h
theorem lp2 {α β e:Type} (f:Nat→Int→Option e) (a:List α) (b:List β) (k:a.length=b.length) (hm:a.length≤4294967296) (p:α→β→Bool) (K Z:Option e)
  (g:∀ n (i:Nat) (x:α) (y:β),idx a (i:Int)=some x→idx b (i:Int)=some y→x∈a→y∈b→decide ((i:Int) < (a.length:Int))=true→IntKind.i64.wrap ((i:Int)+1)=((i+1:Nat):Int)→f (n+1) i=if p x y=true then f n ((i+1:Nat):Int) else Z)
  (he:∀ n (i:Nat),decide ((i:Int) < (a.length:Int))=false→i=a.length→f (n+1) i=K) :
  ∀ (n i:Nat),i≤a.length→a.length - i < n→f n i=if nj p (a.drop i) (b.drop i)=true then K else Z:=by
 intro n
 induction n with
 | zero=>intro i _ h;omega
 | succ n j=>
  intro i l m
  by_cases c:i < a.length
  ·have d:i < b.length:=by omega
   rw[g n i _ _ (ah c) (ah d) (hG c) (hG d) (decide_eq_true NR) (wr1 i NR),j (i+1) NR NR,gI c,gI d,nj]
   cases p a[i] b[i] <;> simp
  ·rw[he n i (decide_eq_false NR) NR,hz NR,hz NR]
   simp[nj]
theorem Ec {N:Nat} (x y:List Int) (hm:x.length≤1099000000000):∀ n i:Nat,i≤x.length→i≤y.length→x.length - i < n→bR N x y n i=some (mG (x.drop i) (y.drop i)):=by
 intro n
 induction n with
 | zero=>intro i _ _ h;omega
 | succ n d=>
  intro i e f g
  simp only[bR]
  by_cases b:i < x.length
  ·have c1:decide ((i:Int) < (x.length:Int))=true:=decide_eq_true NR
   rw[gI b]
   by_cases a:i < y.length
   ·have c2:decide ((y.length:Int)≤(i:Int))=false:=decide_eq_false NR
    rw[gI a,mG]
    simp only[c1,c2,if_true,fI,if_false,ah b,ah a,fz,B1,wr1 i NR]
    by_cases he:x[i]=y[i]
    ·have c:cmp y[i] y[i]=0:=by unfold cmp;simp
     simp only[c,he,decide_true,hA,fI,if_false,if_true]
     exact d (i+1) NR NR NR
    ·have c:cmp x[i] y[i]≠0:=by unfold cmp;split <;> (try split) <;> omega
     simp only[c,he,decide_false,hI,if_true,if_false]
     unfold cmp
     split
     ·rfl
     ·rw[if_pos NR]
   ·have c2:decide ((y.length:Int)≤(i:Int))=true:=decide_eq_true NR
    rw[hz (show y.length≤i by omega)]
    simp only[c1,c2,if_true,ah b,fz,mG]
  ·have c1:decide ((i:Int) < (x.length:Int))=false:=decide_eq_false NR
   simp only[c1,fI,if_false]
   rw[hz (show x.length≤i by omega)]
   by_cases a:i < y.length
   ·have c2:decide ((x.length:Int) < (y.length:Int))=true:=decide_eq_true NR
    rw[gI a,c2];rfl
   ·have c2:decide ((x.length:Int) < (y.length:Int))=false:=decide_eq_false NR
    rw[hz (show y.length≤i by omega),c2];rfl
def fZ (a b:ao):Int:=if mG a.Ids b.Ids=0 then mG a.Hits b.Hits else mG a.Ids b.Ids
theorem pU {a b:ao}:fZ a b=0↔a=b:=by
 unfold fZ
 by_cases h:mG a.Ids b.Ids=0
 ·rw[if_pos h,oM]
  have:=(oM _ _).1 h
  constructor
  ·intro e;cases a;cases b;simp_all
  ·rintro rfl;rfl
 ·rw[if_neg h]
  exact⟨fun e=>absurd e h,fun e=>by rw[e] at h;exact absurd ((oM _ _).2 rfl) h⟩
theorem Db (a b:ao):fZ b a = - fZ a b:=by
 unfold fZ
 rw[yU a.Ids b.Ids,yU a.Hits b.Hits]
 by_cases h:mG a.Ids b.Ids=0
 ·rw[if_pos h,if_pos NR]
 ·rw[if_neg h,if_neg NR]
theorem pY:yK fZ:=by
 refine⟨fun x=>?_,fun x y z h1 a=>?_,fun x y h1 a=>?_⟩
 ·rw[pU.2 rfl];decide
 ·unfold fZ at h1 a ⊢
  by_cases c:mG x.Ids y.Ids=0
  ·rw[if_pos c] at h1
   have d:=(oM _ _).1 c
   rw[d]
   by_cases b:mG y.Ids z.Ids=0
   ·rw[if_pos b] at a ⊢
    exact Ba _ _ _ h1 a
   ·rw[if_neg b] at a ⊢;exact a
  ·rw[if_neg c] at h1
   by_cases b:mG y.Ids z.Ids=0
   ·rw[← (oM _ _).1 b,if_neg c];exact h1
   ·rw[if_neg b] at a
    have:=Ba _ _ _ h1 a
    rw[if_neg NR];exact this
 ·rw[Db x y] at a
  exact pU.1 NR
def Bw (t:ao):Prop:=t.Ids.length≤4294967296∧t.Hits.length≤4294967296
theorem qt {N:Nat} (e:1099000000000≤N) (a b:ao) (c:Bw a):cY N a b=some (fZ a b):=by
 unfold cY d8 fZ
 have h1:=Ec (N:=N) a.Ids b.Ids (by have:=c.1;omega) N 0 NR NR (by have:=c.1;omega)
 have d:=Ec (N:=N) a.Hits b.Hits (by have:=c.2;omega) N 0 NR NR (by have:=c.2;omega)
 simp only[hR] at h1 d
 rw[show ((0:Nat):Int)=0 from rfl] at h1 d
 simp only[h1,d,fz,Kq (show 1048578≤N by omega)]
theorem EX {α:Type} [DecidableEq α]:∀ (l m:List α),l.length=m.length→nj (fun x y=>decide (x=y)) l m=decide (l=m)
 | [],[],_=>by simp[nj]
 | a :: l,b :: m,h=>by
  simp only[nj]
  rw[EX l m (by simpa using h)]
  by_cases e:a=b <;> simp[e]
 | [],_ :: _,h=>by simp at h
 | _ :: _,[],h=>by simp at h
def tj (a b:aq):Bool:=decide (a.Toks.Perm b.Toks)
def oH (v w:aP):Bool:=nj tj v.Levels w.Levels
def EP (m x:aN):Bool:=nj (fun a b=>decide (a.L=b.L)) m.Alphas x.Alphas && nj oH m.Rules x.Rules
theorem Bj {N:Nat} (f:1099000000000≤N) (a b:aq) (g:a.Toks.length≤4294967296) (l:∀ t∈a.Toks,Bw t) (o:∀ t∈b.Toks,Bw t):iA N a b=some (tj a b):=by
 unfold iA tj
 by_cases c:a.Toks.length=b.Toks.length
 ·have c1:decide ((a.Toks.length:Int)=(b.Toks.length:Int))=true:=decide_eq_true NR
  have p:Cu a.Toks (cY N)=some (srt fZ a.Toks):=DR g pY fun x d y q=>qt f x y (l x d)
  have r:Cu b.Toks (cY N)=some (srt fZ b.Toks):=DR NR pY fun x d y q=>qt f x y (o x d)
  have j:=lB (c:=fZ) a.Toks
  have s:=lB (c:=fZ) b.Toks
  have m:(srt fZ a.Toks).length=(srt fZ b.Toks).length:=by rw[j.length_eq,s.length_eq];exact c
  have hm:(srt fZ a.Toks).length≤4294967296:=by rw[j.length_eq];exact g
  have k:=lp2 (aK N (srt fZ a.Toks) (srt fZ b.Toks) (lV N)) (srt fZ a.Toks) (srt fZ b.Toks) m hm (fun x y=>decide (x=y)) (some true) (some false)
   (fun n i x y g1 g2 g3 g4 g5 g6=>by
    have d:Bw x:=l x (j.mem_iff.1 g3)
    simp only[aK,g5,if_true,g1,g2,fz,lV,qt f x y d,g6]
    by_cases e:x=y
    ·subst e
     have:fZ x x=0:=pU.2 rfl
     simp[this]
    ·have:fZ x y≠0:=fun h=>e (pU.1 h)
     simp[this,e])
   (fun n i g1 g2=>by simp only[aK,g1,fI,if_false]) N 0 NR NR
  simp only[hR,EX _ _ m] at k
  have c2:decide (((srt fZ a.Toks).length:Int)=((srt fZ b.Toks).length:Int))=true:=decide_eq_true NR
  simp only[c1,hA,fI,if_false,ev,ft g,ft (show b.Toks.length≤4294967296 by omega),fz,eO,p,r,cE,c2]
  rw[show ((0:Nat):Int)=0 from rfl] at k
  rw[k]
  by_cases hp:a.Toks.Perm b.Toks
  ·simp[hp,(E6 pY).2 hp]
  ·have u : ¬ srt fZ a.Toks=srt fZ b.Toks:=fun e=>hp ((E6 pY).1 e)
   simp[hp,u]
 ·have c1:decide ((a.Toks.length:Int)=(b.Toks.length:Int))=false:=decide_eq_false NR
  simp only[c1,hI,if_true]
  rw[decide_eq_false fun h=>c h.length_eq]
def LX (a:aq):Prop:=a.Toks.length≤4294967296∧∀ t∈a.Toks,Bw t
def Je (w:aP):Prop:=w.Levels.length≤4294967296∧∀ a∈w.Levels,LX a
def CG (m:aN):Prop:=(m.Alphas.length≤4294967296∧∀ a∈m.Alphas,a.L.length≤4294967296)∧m.Rules.length≤4294967296∧∀ w∈m.Rules,Je w
theorem FR {N:Nat} (d:1099000000000≤N) (v w:aP) (a:Je v) (hw:Je w):fS N v w=some (oH v w):=by
 unfold fS bK oH
 by_cases c:v.Levels.length=w.Levels.length
 ·have b:=lp2 (aB N v.Levels w.Levels (iA N)) v.Levels w.Levels c a.1 tj (some true) (some false)
   (fun n i x y g1 g2 g3 g4 g5 g6=>by
    simp only[aB,g5,if_true,g1,g2,fz,Bj d x y (a.2 x g3).1 (a.2 x g3).2 (hw.2 y g4).2,g6]
    cases tj x y <;> simp)
   (fun n i g1 g2=>by simp only[aB,g1,fI,if_false]) N 0 NR (by have:=a.1;omega)
  simp only[hR] at b
  rw[show ((0:Nat):Int)=0 from rfl] at b
  have c1:decide ((v.Levels.length:Int)=(w.Levels.length:Int))=true:=decide_eq_true NR
  simp only[c1,hA,fI,if_false,b]
  cases nj tj v.Levels w.Levels <;> rfl
 ·have c1:decide ((v.Levels.length:Int)=(w.Levels.length:Int))=false:=decide_eq_false NR
  simp only[c1,hI,if_true,fz]
  cases h:nj tj v.Levels w.Levels with
  | false=>rfl
  | true=>exact absurd (vL h) c
theorem Ga {N:Nat} (f:1099000000000≤N) (m x:aN) (hm:CG m) (g:CG x):nS N m x=some (EP m x):=by
 unfold nS EP
 have j:bM N m.Alphas x.Alphas (i7 N)=some (nj (fun a b=>decide (a.L=b.L)) m.Alphas x.Alphas):=by
  unfold bM
  by_cases c:m.Alphas.length=x.Alphas.length
  ·have d:=lp2 (aL N m.Alphas x.Alphas (i7 N)) m.Alphas x.Alphas c hm.1.1 (fun a b=>decide (a.L=b.L)) (some true) (some false)
    (fun n i u v g1 g2 g3 g4 g5 g6=>by
     simp only[aL,g5,if_true,g1,g2,fz,i7,Be f u.L v.L (hm.1.2 u g3),g6]
     by_cases e:u.L=v.L <;> simp[e])
    (fun n i g1 g2=>by simp only[aL,g1,fI,if_false]) N 0 NR (by have:=hm.1.1;omega)
   simp only[hR] at d
   rw[show ((0:Nat):Int)=0 from rfl] at d
   have c1:decide ((m.Alphas.length:Int)=(x.Alphas.length:Int))=true:=decide_eq_true NR
   simp only[c1,hA,fI,if_false,d]
   cases nj (fun a b=>decide (a.L=b.L)) m.Alphas x.Alphas <;> rfl
  ·have c1:decide ((m.Alphas.length:Int)=(x.Alphas.length:Int))=false:=decide_eq_false NR
   simp only[c1,hI,if_true]
   cases h:nj (fun a b=>decide (a.L=b.L)) m.Alphas x.Alphas with
   | false=>rfl
   | true=>exact absurd (vL h) c
 have a2:bL N m.Rules x.Rules (fS N)=some (nj oH m.Rules x.Rules):=by
  unfold bL
  by_cases c:m.Rules.length=x.Rules.length
  ·have d:=lp2 (aM N m.Rules x.Rules (fS N)) m.Rules x.Rules c hm.2.1 oH (some true) (some false)
    (fun n i u v g1 g2 g3 g4 g5 g6=>by
     simp only[aM,g5,if_true,g1,g2,fz,FR f u v (hm.2.2 u g3) (g.2.2 v g4),g6]
     cases oH u v <;> simp)
    (fun n i g1 g2=>by simp only[aM,g1,fI,if_false]) N 0 NR (by have:=hm.2.1;omega)
   simp only[hR] at d
   rw[show ((0:Nat):Int)=0 from rfl] at d
   have c1:decide ((m.Rules.length:Int)=(x.Rules.length:Int))=true:=decide_eq_true NR
   simp only[c1,hA,fI,if_false,d]
   cases nj oH m.Rules x.Rules <;> rfl
  ·have c1:decide ((m.Rules.length:Int)=(x.Rules.length:Int))=false:=decide_eq_false NR
   simp only[c1,hI,if_true]
   cases h:nj oH m.Rules x.Rules with
   | false=>rfl
   | true=>exact absurd (vL h) c
 simp only[j,a2,fz]
 cases nj (fun a b=>decide (a.L=b.L)) m.Alphas x.Alphas <;> simp
def xM (k h:Int) (t:ao):Bool:=decide ((t.Ids.length:Int)=k) && decide ((t.Hits.length:Int)=h)
def Ch (c:aG):Nat→List aq→Bool
 | _,[]=>true
 | i,L :: Ls=>L.Toks.all (xM ((i+1:Nat):Int) (if i+1=c.Pos.length then (c.Neg.length:Int) else 0)) && Ch c (i+1) Ls
def vk (c:aG) (w:aP):Bool:=decide (w.Levels.length=c.Pos.length) && Ch c 0 w.Levels
def w4 (n:ce) (m:aN):Bool:=(decide (m.Alphas.length=n.Alphas.length) && decide (m.Rules.length=n.Chains.length)) && nj vk n.Chains m.Rules
def ju (id:Int) (l:List ao):List ao:=l.filter fun t=>!decide (id∈t.Ids)
def mO (id:Int) (L:aq):aq:=⟨ju id L.Toks⟩
def B7 (id:Int) (i:bF):bF:=⟨i.L.filter fun x=>!decide (x=id)⟩
def nH (xs:List ag) (f:aI) (id:Int) (r:af) (w:aP):aP:=fO xs (pos r.Pats) (neg r.Pats) f (-1) ⟨w.Levels.map (mO id)⟩
def pF (g:af→aP→aP):List af→List aP→List aP
 | r :: a,w :: ws=>g r w :: pF g a ws
 | _,ws=>ws
def wN (d:bv) (m:aN) (s:ac) (id:Int):aN:=⟨m.Alphas.map (B7 id),pF (nH s.Items (aF s.Items id).1 id) d.Rules m.Rules⟩
theorem ug {g:af→aP→aP}:∀ (a:List af) (ws:List aP),a.length=ws.length→(pF g a ws).length=ws.length∧∀ (i:Nat) (v:aP),(pF g a ws)[i]?=some v→∃ (r:af) (w:aP),a[i]?=some r∧ws[i]?=some w∧v=g r w
 | [],[],_=>⟨rfl,fun i v h=>by simp[pF] at h⟩
 | [],w :: ws,h=>by simp at h
 | r :: a,[],h=>by simp at h
 | r :: a,w :: ws,h=>by
  obtain⟨h1,c⟩:=ug (g:=g) a ws (by simpa using h)
  refine⟨by simp[pF,h1],fun i v b=>?_⟩
  cases i with
  | zero=>simp only[pF,F0,Option.some.injEq] at b;exact⟨r,w,rfl,rfl,b.symm⟩
  | succ i=>simp only[pF,NX] at b;simpa using c i v b
theorem I0 {id:Int} {r:af} {j:Nat} {w:aP} (h:CT r j w):CT r j ⟨w.Levels.map (mO id)⟩:=by
 obtain⟨h1,d⟩:=h
 refine⟨by simpa using h1,fun i M c=>?_⟩
 simp only[p5,vj] at c
 obtain⟨L,e,rfl⟩:=c
 obtain⟨a,b⟩:=d i L e
 have f:(ju id L.Toks).length≤L.Toks.length:=py _ _
 exact⟨j4 f a,fun t g=>b t (nt.1 g).1⟩
theorem FE {d:bv} {n:ce} {m:aN} {s:ac} {id:Int} {j:Nat} (h:n8 d n j m):n8 d n j (wN d m s id):=by
 have a:=ug (g:=nH s.Items (aF s.Items id).1 id) d.Rules m.Rules h.lr.symm
 refine⟨by simpa[wN] using h.la,by show (pF _ _ _).length=_;rw[a.1];exact h.lr,fun i b=>?_,fun i r v c f=>?_⟩
 ·simp only[wN] at b
  obtain⟨y,k,rfl⟩:=hC.1 b
  have l:(B7 id y).L.length≤y.L.length:=py _ _
  exact j4 l (h.al y k)
 ·obtain⟨o,w,e,a3,rfl⟩:=a.2 i v f
  rw[c] at e
  cases e
  exact uX (I0 (h.rows i r w c a3))
theorem Ml {N:Nat} (a:1099000000000≤N) (l:List Int) (v:Int) (b:l.length≤4294967296):oQ N l v=some (decide (v∈l)):=by
 unfold oQ
 refine lp0 a l b (gK N l v) (fun t=>some (decide (v∈t))) (fun n j x t g1 g2 g3 g4 g5 g6 g7=>?_) (fun n j g1 g2=>?_)
 ·simp only[gK,g5,if_true,g4,fz,g6,g7]
  by_cases h:x=v
  ·simp[h]
  ·have c : ¬ v=x:=fun e=>h e.symm
   simp[h,c]
 ·simp only[gK,g2,fI,if_false];simp
theorem FK {N:Nat} (b:1099000000000≤N) (l:List ao) (id:Int) (a:l.length≤4294967296) (f:∀ t∈l,t.Ids.length≤4294967296):kv N l id=some (ju id l):=by
 unfold kv
 have g:C2 l=some ():=by unfold C2;rw[if_pos a]
 rw[g,fz]
 refine (lp' b l a (fun n (u:List ao) i=>dV N l id n u i) (fun t u=>some (u++ju id t)) (fun u t=>u.length+t.length≤4294967296) [] (by simpa using a) (fun n u i x t g1 g2 g3 g4 g5 g6 c d=>?_) (fun n u i g1 g2 c=>?_)).trans NS
 ·simp only[gh] at c
  have e:ju id (x :: t)=if id∈x.Ids then ju id t else x :: ju id t:=by
   unfold ju;rw[j5];by_cases h:id∈x.Ids <;> simp[h]
  simp only[dV,g5,if_true,g4,fz,Ml b x.Ids id (f x g2),g6,e]
  by_cases h:id∈x.Ids
  ·simp only[h,decide_true,hA,fI,if_false,if_true]
   exact d u NR
  ·simp only[h,decide_false,hI,if_true,if_false,bO (show u.length+[x].length≤4294967296 by simp;omega),fz]
   rw[d _ (by simp;omega)];simp
 ·simp only[dV,g2,fI,if_false];simp[ju]
structure I3 (d:bv) (m:aN) (s:ac):Prop where
 sl:s.Items.length≤1048576
 fl:∀ x∈s.Items,x.F.Fields.length≤1048576
 al:m.Alphas.length≤1048576
 ll:∀ i∈m.Alphas,i.L.length≤1048576
 rl:m.Rules.length≤1048576
 ld:d.Rules.length=m.Rules.length
 rows:∀ (i:Nat) (r:af) (w:aP),d.Rules[i]?=some r→m.Rules[i]?=some w→SzS r s∧(pos r.Pats).length=ak r.Pats∧1≤w.Levels.length∧w.Levels.length≤(pos r.Pats).length ∧
  (∀ L∈w.Levels,L.Toks.length≤4294967296∧∀ t∈L.Toks,t.Ids.length≤(pos r.Pats).length)∧∀ L,w.Levels[w.Levels.length - 1]?=some L→∀ t∈L.Toks,t.Hits.length=(neg r.Pats).length∧∀ x∈t.Hits,InR x
theorem Jb {N:Nat} (i:1099000000000≤N) (d:bv) (s:ac) (id:Int) (b:Bool) (f:List aP) (a:Int) (K:List aP→Int→Option aN) (r:af) (w:aP) (v:idx d.Rules a=some r) (j:SzS r s) (F:(pos r.Pats).length=ak r.Pats) (h1:1≤w.Levels.length) (G:w.Levels.length≤(pos r.Pats).length)
  (k:∀ L∈w.Levels,L.Toks.length≤4294967296∧∀ t∈L.Toks,t.Ids.length≤(pos r.Pats).length) (z:∀ L,w.Levels[w.Levels.length - 1]?=some L→∀ t∈L.Toks,t.Hits.length=(neg r.Pats).length∧∀ x∈t.Hits,InR x) :
  fP N d s id ((aF s.Items id).1,b) f a K N w.Levels 0=K (f.set a.toNat (nH s.Items (aF s.Items id).1 id r w)) (IntKind.i64.wrap (a+1)):=by
 have H:=et r.Pats
 have I:=j.pl
 have lp:∀ (rest:List aq) (n:Nat) (done:List aq),rest.length < n→w.Levels=done++rest →
   fP N d s id ((aF s.Items id).1,b) f a K n (done.map (mO id)++rest) (done.length:Int)=K (f.set a.toNat (nH s.Items (aF s.Items id).1 id r w)) (IntKind.i64.wrap (a+1)):=by
  intro rest
  induction rest with
  | nil=>
   intro n done g c
   obtain⟨n,rfl⟩:∃ m,n=m+1:=⟨n - 1,by simp at g;omega⟩
   have A:w.Levels=done:=by simpa using c
   subst A
   have c1:decide ((w.Levels.length:Int) < ((w.Levels.map (mO id)++[]).length:Int))=false:=decide_eq_false NS
   have h:IntKind.i64.wrap (((w.Levels.map (mO id)++[]).length:Int) - 1)=((w.Levels.length - 1:Nat):Int):=by
    rw[j2,q7,show ((w.Levels.length:Int) - 1)=((w.Levels.length - 1:Nat):Int) by omega]
    exact wr NR NR
   have l:w.Levels.length - 1 < w.Levels.length:=by omega
   have o:w.Levels[w.Levels.length - 1]?=some w.Levels[w.Levels.length - 1]:=gj l
   have p:(w.Levels.map (mO id))[w.Levels.length - 1]?=some (mO id w.Levels[w.Levels.length - 1]):=by rw[p5,o];rfl
   have B:idx (w.Levels.map (mO id)++[]) ((w.Levels.length - 1:Nat):Int)=some (mO id w.Levels[w.Levels.length - 1]):=by rw[j2,nE,p]
   obtain⟨q,z2⟩:=k _ (hG l)
   have M:(mO id w.Levels[w.Levels.length - 1]).Toks.length≤w.Levels[w.Levels.length - 1].Toks.length:=py _ _
   have e:=GU i r s j (aF s.Items id).1 (-1) (Or.inr rfl) (mO id w.Levels[w.Levels.length - 1]).Toks NR (fun t e=>by
    have hm:t∈w.Levels[w.Levels.length - 1].Toks:=(nt.1 e).1
    exact⟨by have:=z2 t hm;omega,z _ o t hm⟩)
   simp only[fP,c1,fI,if_false,v,fz,h,B,e,hW]
   unfold nH fO
   simp only[q7,p,j2]
  | cons L Ls C=>
   intro n done g c
   obtain⟨n,rfl⟩:∃ m,n=m+1:=⟨n - 1,NR⟩
   simp only[gh] at g
   have O:w.Levels.length=done.length+(Ls.length+1):=by rw[c];simp
   have c1:decide ((done.length:Int) < ((done.map (mO id)++L :: Ls).length:Int))=true:=decide_eq_true (by simp;omega)
   have u:(done.map (mO id)).length=done.length:=by simp
   have D:idx (done.map (mO id)++L :: Ls) (done.length:Int)=some L:=by rw[← u];exact eo _ _ _
   have E:∀ y:aq,(done.map (mO id)++L :: Ls).set (done.length:Int).toNat y=(done.map (mO id)++[y])++Ls:=fun y=>by rw[hW,← u];exact kU _ _ _ _
   obtain⟨q,z2⟩:=k L (by rw[c];simp)
   have h:=FK i L.Toks id q (fun t e=>by have:=z2 t e;omega)
   simp only[fP,c1,if_true,D,fz,h,E,wr1 done.length NR]
   have:=C n (done++[L]) NR (by rw[c];simp)
   simp only[gi,gh,gk,ho,q2,hN,rv] at this
   exact this
 have:=lp w.Levels N [] NR rfl
 simpa using this
theorem ET {N:Nat} (l:1099000000000≤N) (d:bv) (s:ac) (id:Int) (b:Bool) (as:List bF) (m:d.Rules.length≤1048576) :
  ∀ (ws:List aP) (c:List af) (k:Nat) (e:List af) (a:List aP),ws.length < k→d.Rules=e++c→e.length=a.length→c.length=ws.length →
   (∀ (i:Nat) (r:af) (w:aP),c[i]?=some r→ws[i]?=some w→SzS r s∧(pos r.Pats).length=ak r.Pats∧1≤w.Levels.length∧w.Levels.length≤(pos r.Pats).length ∧
    (∀ L∈w.Levels,L.Toks.length≤4294967296∧∀ t∈L.Toks,t.Ids.length≤(pos r.Pats).length)∧∀ L,w.Levels[w.Levels.length - 1]?=some L→∀ t∈L.Toks,t.Hits.length=(neg r.Pats).length∧∀ x∈t.Hits,InR x) →
   eT N d s id ((aF s.Items id).1,b) as k (a++ws) (a.length:Int)=some ⟨as,a++pF (nH s.Items (aF s.Items id).1 id) c ws⟩
 | [],c,k,e,a,hk,h1,f,g,h=>by
  obtain⟨k,rfl⟩:∃ j,k=j+1:=⟨k - 1,by simp at hk;omega⟩
  have n:c=[]:=qa.1 g
  subst n
  have c1:decide ((a.length:Int) < (d.Rules.length:Int))=false:=decide_eq_false (by rw[h1,← f];simp)
  simp only[eT,c1,fI,if_false,pF]
 | w :: ws,[],k,e,a,hk,h1,f,g,h=>by simp at g
 | w :: ws,r :: c,k,e,a,hk,h1,f,g,h=>by
  obtain⟨k,rfl⟩:∃ j,k=j+1:=⟨k - 1,NR⟩
  simp only[gh] at hk g
  have C:d.Rules.length=a.length+(c.length+1):=by rw[h1,← f];simp
  have c1:decide ((a.length:Int) < (d.Rules.length:Int))=true:=decide_eq_true NR
  obtain⟨o,p,q,u,v,y⟩:=h 0 r w rfl rfl
  have z:idx d.Rules (a.length:Int)=some r:=by rw[h1,← f];exact eo _ _ _
  simp only[eT,c1,if_true,eo,fz]
  rw[Jb l d s id b (a++w :: ws) (a.length:Int) _ r w z o p q u v y]
  simp only[hW,kU,wr1 a.length NR]
  have:=ET l d s id b as m ws c k (e++[r]) (a++[nH s.Items (aF s.Items id).1 id r w]) NR (by rw[h1];simp) (by simp[f]) NR
   (fun i A w' B a3=>h (i+1) A w' (by simpa using B) (by simpa using a3))
  simp only[gi,gh,gk,ho] at this
  rw[this,gf]
  rfl
theorem Jm {N:Nat} (d:1099000000000≤N) (id:Int) (s1:List bF) (s2:Int) (K:List bF→Int→Option aN) (x:bF) (a:idx s1 s2=some x) (e:x.L.length≤1048576) :
  eJ N id s1 s2 K N [] 0=K (s1.set s2.toNat (B7 id x)) (IntKind.i64.wrap (s2+1)):=by
 refine (lp' d x.L NR (fun n (u:List Int) i=>eJ N id s1 s2 K n u i) (fun t u=>K (s1.set s2.toNat (⟨u++t.filter fun x=>!decide (x=id)⟩:bF)) (IntKind.i64.wrap (s2+1))) (fun u t=>u.length+t.length≤1048576) [] (by simpa using e) (fun n u i v t g1 g2 g3 g4 g5 g6 b c=>?_) (fun n u i g1 g2 b=>?_)).trans (by simp[B7])
 ·simp only[gh] at b
  simp only[eJ,a,fz,g5,if_true,g4,g6,j5]
  by_cases h:v=id
  ·simp only[h,decide_true,hA,fI,if_false]
   exact c u NR
  ·simp only[h,decide_false,hI,if_true,bO (show u.length+[v].length≤4294967296 by simp;omega),fz]
   rw[c _ (by simp;omega)];simp
 ·simp only[eJ,a,fz,g2,fI,if_false,List.filter_nil,j2]
theorem J7 {N:Nat} (b:1099000000000≤N) (d:bv) (m:aN) (s:ac) (id:Int) (h:I3 d m s):o6 N d m s id=some (wN d m s id):=by
 have p:=h.al
 have q:=h.rl
 have r:=h.ld
 unfold o6
 rw[ym b s id h.sl h.fl,fz]
 have lp:∀ (is:List bF) (n:Nat) (a:List bF),is.length < n→m.Alphas.length=a.length+is.length→(∀ i∈is,i.L.length≤1048576) →
   eK N d m s id (aF s.Items id) n (a++is) (a.length:Int)=eT N d s id (aF s.Items id) (a++is.map (B7 id)) N m.Rules 0:=by
  intro is
  induction is with
  | nil=>
   intro n a c f e
   obtain⟨n,rfl⟩:∃ m,n=m+1:=⟨n - 1,by simp at c;omega⟩
   have c1:decide ((a.length:Int) < ((a++[]).length:Int))=false:=decide_eq_false NS
   simp only[eK,c1,fI,if_false,rv]
  | cons i is k=>
   intro n a c f e
   obtain⟨n,rfl⟩:∃ m,n=m+1:=⟨n - 1,NR⟩
   simp only[gh] at c f
   have c1:decide ((a.length:Int) < ((a++i :: is).length:Int))=true:=decide_eq_true (by simp;omega)
   simp only[eK,c1,if_true]
   rw[Jm b id _ _ _ i (eo _ _ _) (e i NS),hW,kU,wr1 a.length NR]
   have:=k n (a++[B7 id i]) NR (by simp;omega) (fun j l=>e j (by simp[l]))
   simp only[gi,gh,gk,ho] at this
   rw[this,hN,gf];rfl
 have h1:=lp m.Alphas N [] NR NS h.ll
 simp only[ha,gk,oi] at h1
 have o:eK N d m s id (aF s.Items id) N m.Alphas 0=_:=h1
 rw[o]
 have g:=ET b d s id (aF s.Items id).2 (m.Alphas.map (B7 id)) NR m.Rules d.Rules N [] [] NR rfl rfl h.ld h.rows
 simp only[ha,gk,oi] at g
 exact g
structure LN (j:Nat) (m:aN):Prop where
 la:m.Alphas.length≤1001
 lr:m.Rules.length≤1001
 al:∀ i∈m.Alphas,i.L.length≤j
 rows:∀ w∈m.Rules,w.Levels.length≤3∧∀ k L,w.Levels[k]?=some L→L.Toks.length≤j*100 ^ k∧∀ t∈L.Toks,t.Ids.length≤1000∧t.Hits.length≤1000∧(k+1=w.Levels.length→∀ x∈t.Hits,InR x)
theorem LN.sz {j:Nat} {m:aN} (c:j≤40) (h:LN j m):CG m:=by
 have h1:=h.la
 have g:=h.lr
 refine⟨⟨NR,fun a d=>by have:=h.al a d;omega⟩,NR,fun w hw=>?_⟩
 obtain⟨i,z2⟩:=h.rows w hw
 refine⟨NR,fun L e=>?_⟩
 obtain⟨k,hk,rfl⟩:=x0 e
 obtain⟨a,b⟩:=z2 k _ (gj hk)
 have hp:100 ^ k≤100 ^ 2:=Nat.pow_le_pow_right NR NR
 have:j*100 ^ k≤40*100 ^ 2:=NV c hp
 refine⟨NR,fun t f=>?_⟩
 have:=b t f
 exact⟨NR,NR⟩
theorem yq {d:bv} (b:iP d=true):∀ r∈d.Rules,r.Pats.length≤6∧1≤(pos r.Pats).length∧(pos r.Pats).length≤3∧(neg r.Pats).length≤6:=fun r c=>by
 have a:=ng b r c
 have hp:iK r.Pats=true:=by
  unfold iY at a
  simp only[gm] at a
  exact a.2.2.1
 have f:(pos r.Pats).length=ak r.Pats:=pq r.Pats
 have g:(neg r.Pats).length≤r.Pats.length:=py _ _
 unfold iK at hp
 simp only[gm,decide_eq_true_eq] at hp
 obtain⟨⟨_,e⟩,⟨h,i⟩,_⟩:=hp
 exact⟨e,NR,NR,NR⟩
theorem Ey {d:bv} {n:ce} {j:Nat} {m:aN} (c:iP d=true) (q:n.Alphas.length≤1001) (h:n8 d n j m):LN j m:=by
 have r:d.Rules.length≤12:=by
  unfold iP at c
  simp only[gm,decide_eq_true_eq] at c
  exact c.2.1.2
 have h1:=h.la
 have s:=h.lr
 refine⟨NR,NR,h.al,fun w hw=>?_⟩
 obtain⟨i,l,rfl⟩:=x0 hw
 have f:i < d.Rules.length:=by omega
 obtain⟨u,o⟩:=h.rows i _ _ (gj f) (gj l)
 obtain⟨v,x,y,z⟩:=yq c _ (hG f)
 refine⟨NR,fun k L g=>?_⟩
 obtain⟨a,b⟩:=o k L g
 have hk:k < m.Rules[i].Levels.length:=(gx.1 g).1
 refine⟨a,fun t p=>?_⟩
 obtain⟨t1,t2,t3⟩:=b t p
 exact⟨NR,NR,fun e=>(t3 NR).2⟩
theorem FT {d:bv} {m:aN} {s:ac} {id:Int} {j:Nat} (l:iP d=true) (n:rb d) (o:s.Items.length≤40) (f:∀ x∈s.Items,x.F.Fields.length≤1048576) (p:j≤40) (h:n8 d (bS d) j m):I3 d m s:=by
 have ok:=uU (id:=id) l n o f p h
 have z:=ok.ok.la
 have A:=ok.ok.al
 refine⟨ok.ok.sl,f,NR,fun i c=>by have:=h.al i c;omega,ok.ok.rl,ok.ok.ld,fun i r w g e=>?_⟩
 obtain⟨q,u,v⟩:=ok.rows i r w g e
 have c:i < (bS d).Chains.length:=by
  have:=(gx.1 e).1
  have:=ok.ok.lc
  omega
 obtain⟨_,ro⟩:=ok.ok.rows i r _ w g (gj c) e
 have y:=ro.ne
 have B:=ro.ll
 refine⟨q,u,y,NR,fun L a=>?_,fun L a t b=>⟨ro.hit L a t b,v L a t b⟩⟩
 obtain⟨k,hk,rfl⟩:=x0 a
 refine⟨xp ro.fit _ (hC.2 ⟨_,hG hk,rfl⟩),fun t b=>?_⟩
 have:=ro.ids k _ (gj hk) t b
 omega
theorem Ln {N:Nat} (e:1099000000000≤N) (a:List aq) (b:Int) (K:List aq→Int→Option aN) (L:aq) (c:LX L) (f:a.length+1≤4294967296) :
  fU N a b K L N [] 0=K (a++[L]) (IntKind.i64.wrap (b+1)):=by
 refine (lp' e L.Toks c.1 (fun n (u:List ao) i=>fU N a b K L n u i) (fun t u=>K (a++[(⟨u++t⟩:aq)]) (IntKind.i64.wrap (b+1))) (fun u t=>u.length+t.length≤4294967296) [] (by simpa using c.1) (fun n u i x t g1 g2 g3 g4 g5 g6 d g=>?_) (fun n u i g1 g2 d=>?_)).trans NS
 ·simp only[gh] at d
  obtain⟨h,z2⟩:=c.2 x g2
  simp only[fU,g5,if_true,g4,fz,bh,ft h,ft z2,show (⟨x.Ids,x.Hits⟩:ao)=x from rfl,bO (show u.length+[x].length≤4294967296 by simp;omega),g6]
  rw[g _ (by simp;omega)];simp
 ·simp only[fU,g2,fI,if_false,j2,bO (show a.length+[(⟨u⟩:aq)].length≤4294967296 by simpa using f),fz]
theorem Lb {N:Nat} (d:1099000000000≤N) (a:List aP) (b:Int) (K:List aP→Int→Option aN) (w:aP) (c:Je w) (f:a.length+1≤4294967296) :
  eV N a b K w N [] 0=K (a++[w]) (IntKind.i64.wrap (b+1)):=by
 refine (lp' d w.Levels c.1 (fun n (u:List aq) i=>eV N a b K w n u i) (fun t u=>K (a++[(⟨u++t⟩:aP)]) (IntKind.i64.wrap (b+1))) (fun u t=>u.length+t.length≤4294967296) [] (by simpa using c.1) (fun n u i x t g1 g2 g3 g4 g5 g6 e g=>?_) (fun n u i g1 g2 e=>?_)).trans NS
 ·simp only[gh] at e
  simp only[eV,g5,if_true,g4,fz]
  rw[Ln d u i _ x (c.2 x g2) NR,g6,g _ (by simp;omega)];simp
 ·simp only[eV,g2,fI,if_false,j2,bO (show a.length+[(⟨u⟩:aP)].length≤4294967296 by simpa using f),fz]
theorem KZ {N:Nat} (b:1099000000000≤N) (m:aN) (hm:CG m):o0 N m=some m:=by
 obtain⟨⟨h1,d⟩,h3,h4⟩:=hm
 have e:∀ as:List bF,dZ N m as N [] 0=some ⟨as,m.Rules⟩:=by
  intro as
  refine (lp' b m.Rules h3 (fun n (u:List aP) i=>dZ N m as n u i) (fun t u=>some ⟨as,u++t⟩) (fun u t=>u.length+t.length≤4294967296) [] (by simpa using h3) (fun n u i x t g1 g2 g3 g4 g5 g6 a c=>?_) (fun n u i g1 g2 a=>?_)).trans NS
  ·simp only[gh] at a
   simp only[dZ,g5,if_true,g4,fz]
   rw[Lb b u i _ x (h4 x g2) NR,g6,c _ (by simp;omega)];simp
  ·simp only[dZ,g2,fI,if_false,j2]
 unfold o0
 refine (lp' b m.Alphas h1 (fun n (u:List bF) i=>i8 N m n u i) (fun t u=>some ⟨u++t,m.Rules⟩) (fun u t=>u.length+t.length≤4294967296) [] (by simpa using h1) (fun n u i x t g1 g2 g3 g4 g5 g6 a c=>?_) (fun n u i g1 g2 a=>?_)).trans NS
 ·simp only[gh] at a
  simp only[i8,g5,if_true,g4,fz,bh,ft (d x g2),show (⟨x.L⟩:bF)=x from rfl,bO (show u.length+[x].length≤4294967296 by simp;omega),g6]
  rw[c _ (by simp;omega)];simp
 ·simp only[i8,g2,fI,if_false,e,j2]
theorem Mk {N:Nat} (a:1099000000000≤N) (i:Nat) (c:i≤4294967296) (K:Int→Option Bool) (L:aq) (h:Int) (b:L.Toks.length≤4294967296) :
  fq N (i:Int) K L h N 0=if L.Toks.all (xM ((i+1:Nat):Int) h)=true then K ((i+1:Nat):Int) else some false:=by
 refine lp0 a L.Toks b (fq N (i:Int) K L h) (fun t=>if t.all (xM ((i+1:Nat):Int) h)=true then K ((i+1:Nat):Int) else some false) (fun n j x t g1 g2 g3 g4 g5 g6 g7=>?_) (fun n j g1 g2=>?_)
 ·simp only[fq,g5,if_true,g4,fz,wr1 i NR,g6,g7,n0,xM]
  by_cases c1:(x.Ids.length:Int)=((i+1:Nat):Int)
  ·by_cases c2:(x.Hits.length:Int)=h <;> simp[c1,c2]
  ·simp only[decide_eq_false c1,hI,if_true,fz,q0,fI,if_false]
 ·simp only[fq,g2,fI,if_false,wr1 i NR];rfl
theorem Mf {N:Nat} (b:1099000000000≤N) (s1:Int) (K:Int→Option Bool) (c:aG) (w:aP) (l:w.Levels.length=c.Pos.length) (m:w.Levels.length≤4294967296) (d:∀ L∈w.Levels,L.Toks.length≤4294967296) :
  ∀ (k i:Nat),i≤w.Levels.length→w.Levels.length - i < k→cT N s1 K w c k (i:Int)=if Ch c i (w.Levels.drop i)=true then K (IntKind.i64.wrap (s1+1)) else some false:=by
 intro k
 induction k with
 | zero=>intro i _ h;omega
 | succ k e=>
  intro i n hk
  by_cases a:i < w.Levels.length
  ·have c1:decide ((i:Int) < (w.Levels.length:Int))=true:=decide_eq_true NR
   have f:IntKind.i64.wrap ((c.Pos.length:Int) - 1)=((c.Pos.length - 1:Nat):Int):=by
    rw[show ((c.Pos.length:Int) - 1)=((c.Pos.length - 1:Nat):Int) by omega]
    exact wr NR NR
   have g:=d _ (hG a)
   rw[gI a,Ch]
   have j:∀ h:Int,iE N (i:Int) (cT N s1 K w c k) w.Levels[i] h=if (w.Levels[i].Toks.all (xM ((i+1:Nat):Int) h) && Ch c (i+1) (w.Levels.drop (i+1)))=true then K (IntKind.i64.wrap (s1+1)) else some false:=by
    intro h
    unfold iE
    rw[Mk b i NR _ _ h g,e (i+1) NR NR]
    cases w.Levels[i].Toks.all (xM ((i+1:Nat):Int) h) <;> simp
   simp only[cT,c1,if_true,f,ah a,fz,j]
   by_cases he:i+1=c.Pos.length
   ·have c2:decide ((i:Int)=((c.Pos.length - 1:Nat):Int))=true:=decide_eq_true NR
    rw[c2,if_pos rfl,if_pos he]
   ·have c2:decide ((i:Int)=((c.Pos.length - 1:Nat):Int))=false:=decide_eq_false NR
    rw[c2,if_neg NS,if_neg he]
  ·have c1:decide ((i:Int) < (w.Levels.length:Int))=false:=decide_eq_false NR
   rw[hz NR]
   simp only[cT,c1,fI,if_false,Ch,if_true]
theorem Jh {N:Nat} (h:1099000000000≤N) (n:ce) (m:aN) (hm:CG m):pn N n m=some (w4 n m):=by
 unfold pn w4
 by_cases g:m.Alphas.length=n.Alphas.length
 ·by_cases a2:m.Rules.length=n.Chains.length
  ·have c1:decide ((m.Alphas.length:Int)=(n.Alphas.length:Int))=true:=decide_eq_true NR
   have c2:decide ((m.Rules.length:Int)=(n.Chains.length:Int))=true:=decide_eq_true NR
   have b:=lp2 (cI N n m) n.Chains m.Rules a2.symm (by have:=hm.2.1;omega) vk (some true) (some false)
    (fun k i c w g1 g2 g3 g4 g5 g6=>by
     have a:decide ((i:Int) < (m.Rules.length:Int))=true:=by rw[a2];exact g5
     have hw:=hm.2.2 w g4
     by_cases d:w.Levels.length=c.Pos.length
     ·have f:decide ((w.Levels.length:Int)=(c.Pos.length:Int))=true:=decide_eq_true NR
      have e:=Mf h (i:Int) (cI N n m k) c w d hw.1 (fun L j=>(hw.2 L j).1) N 0 NR (by have:=hw.1;omega)
      simp only[hR] at e
      rw[show ((0:Nat):Int)=0 from rfl] at e
      simp only[cI,a,if_true,g1,g2,fz,f,hA,fI,if_false,e,vk,g6]
      simp only[decide_eq_true d,hV]
     ·have f:decide ((w.Levels.length:Int)=(c.Pos.length:Int))=false:=decide_eq_false NR
      simp only[cI,a,if_true,g1,g2,fz,f,hI,vk]
      simp only[decide_eq_false d,q0,fI,if_false])
    (fun k i g1 g2=>by
     have a:decide ((i:Int) < (m.Rules.length:Int))=false:=by rw[a2];exact g1
     simp only[cI,a,fI,if_false]) N 0 NR (by have:=hm.2.1;omega)
   simp only[hR] at b
   rw[show ((0:Nat):Int)=0 from rfl] at b
   simp only[c1,c2,hA,fI,if_false,fz,b]
   rw[decide_eq_true g,decide_eq_true a2]
   cases nj vk n.Chains m.Rules <;> rfl
  ·have c1:decide ((m.Alphas.length:Int)=(n.Alphas.length:Int))=true:=decide_eq_true NR
   have c2:decide ((m.Rules.length:Int)=(n.Chains.length:Int))=false:=decide_eq_false NR
   simp only[c1,c2,hA,hI,fI,if_false,fz,if_true]
   rw[decide_eq_false a2];simp
 ·have c1:decide ((m.Alphas.length:Int)=(n.Alphas.length:Int))=false:=decide_eq_false NR
  simp only[c1,hI,if_true,fz]
  rw[decide_eq_false g];simp
theorem xP {nx:Int} {l:List ag} (h:kQ nx l):∀ x∈l,AL x.F:=fun x a=>zN (h.2.2.1 x a).2.2
def z6 (g:List Int→Bool) (r a:List Int):List (List Int):=(a.map fun y=>r++[y]).filter g
def C0 (g:List Int→Bool) (id:Int) (before fresh:List (List Int)) (A:List Int):List (List Int):=before.flatMap (fun r=>z6 g r [id])++fresh.flatMap (fun r=>z6 g r A)
structure Has (p:List Int→Bool) (k:Nat) (L:List (List Int)):Prop where
 nd:L.Nodup
 iff:∀ r,r∈L↔r.length=k∧p r=true
theorem Has.perm {p:List Int→Bool} {k:Nat} {L M:List (List Int)} (h:Has p k L) (a:Has p k M):L.Perm M:=
 (List.perm_ext_iff_of_nodup h.nd a.nd).2 fun r=>(h.iff r).trans (a.iff r).symm
theorem nK {g:List Int→Bool} {r b q:List Int}:q∈z6 g r b↔∃ y∈b,q=r++[y]∧g q=true:=by
 unfold z6
 rw[nt,hC]
 constructor
 ·rintro⟨⟨y,a,rfl⟩,h⟩;exact⟨y,a,rfl,h⟩
 ·rintro⟨y,a,rfl,h⟩;exact⟨⟨y,a,rfl⟩,h⟩
theorem Dn {g:List Int→Bool} {r c:List Int} (h:c.Nodup):(z6 g r c).Nodup:=by
 unfold z6
 refine List.Pairwise.filter _ (List.Pairwise.map _ (fun a b d e=>d ?_) h)
 simpa using e
theorem wG {g:List Int→Bool} {c:List Int} (d:c.Nodup) {L:List (List Int)} (h:L.Nodup):(L.flatMap fun r=>z6 g r c).Nodup:=by
 unfold List.Nodup
 rw[List.pairwise_flatMap]
 refine⟨fun r _=>Dn d,h.imp fun {a b} f q i k j e=>f ?_⟩
 obtain⟨y,_,rfl,_⟩:=nK.1 i
 obtain⟨l,_,rfl,_⟩:=nK.1 j
 exact (List.append_inj' e rfl).1
structure Cj (g g':List Int→Bool) (id:Int) (A:Nat→List Int) (K:Nat):Prop where
 old:∀ r,g r=true→id ∉ r∧g' r=true
 new:∀ r,g' r=true→id ∉ r→g r=true
 pre:∀ r y,g' (r++[y])=true→g' r=true
 inA:∀ r y,r.length < K→g' (r++[y])=true→y∈A r.length
 nd:∀ k,k < K→(A k).Nodup
theorem Ie {g g':List Int→Bool} {id:Int} {A:Nat→List Int} {K k:Nat} (H:Cj g g' id A K) (hk:k < K) {B F:List (List Int)} (i:Has g k B) (j:Has (fun r=>g' r && decide (id∈r)) k F) :
  Has (fun r=>g' r && decide (id∈r)) (k+1) (C0 g' id B F (A k)):=by
 refine⟨?_,fun r=>?_⟩
 ·unfold C0
  rw[nn]
  refine⟨wG NS i.nd,wG (H.nd k hk) j.nd,fun a t b w e=>?_⟩
  subst e
  obtain⟨x,c,h1⟩:=ix.1 t
  obtain⟨y,d,z⟩:=ix.1 w
  obtain⟨u,_,rfl,_⟩:=nK.1 h1
  obtain⟨v,_,e,_⟩:=nK.1 z
  obtain⟨rfl,-⟩:=List.append_inj' e rfl
  have C:=((i.iff x).1 c).2
  have p:=((j.iff x).1 d).2
  simp only[gm,decide_eq_true_eq] at p
  exact (H.old x C).1 p.2
 ·unfold C0
  rw[gb,ix,ix]
  simp only[gm,decide_eq_true_eq]
  constructor
  ·rintro (⟨x,c,h⟩ | ⟨x,c,h⟩)
   ·obtain⟨y,d,rfl,h1⟩:=nK.1 h
    have:=(i.iff x).1 c
    refine⟨by simp[this.1],h1,?_⟩
    simp at d;simp[d]
   ·obtain⟨y,d,rfl,h1⟩:=nK.1 h
    have:=(j.iff x).1 c
    simp only[gm,decide_eq_true_eq] at this
    exact⟨by simp[this.1],h1,by simp[this.2.2]⟩
  ·rintro⟨l,f,m⟩
   rcases Oa r with rfl | ⟨q,y,rfl⟩
   ·simp at l
   ·rw[Ob] at l f m ⊢
    have n:q.length=k:=by simpa using l
    have s:=H.pre q y f
    by_cases o:id∈q
    ·right
     refine⟨q,(j.iff q).2 ⟨n,by simp[s,o]⟩,nK.2 ⟨y,?_,rfl,f⟩⟩
     have:=H.inA q y NR f
     rwa [n] at this
    ·left
     refine⟨q,(i.iff q).2 ⟨n,H.new q s o⟩,nK.2 ⟨y,?_,rfl,f⟩⟩
     simp only[gb,o,false_or,hY] at m
     simp[m]
theorem FI {g g':List Int→Bool} {id:Int} {A:Nat→List Int} {K k:Nat} (H:Cj g g' id A K) {L M:List (List Int)} (d:Has g k L) (f:Has (fun r=>g' r && decide (id∈r)) k M):Has g' k (L++M):=by
 refine⟨?_,fun r=>?_⟩
 ·rw[nn]
  refine⟨d.nd,f.nd,fun a i b j e=>?_⟩
  subst e
  have h1:=((d.iff a).1 i).2
  have c:=((f.iff a).1 j).2
  simp only[gm,decide_eq_true_eq] at c
  exact (H.old a h1).1 c.2
 ·rw[gb,d.iff,f.iff]
  simp only[gm,decide_eq_true_eq]
  constructor
  ·rintro (⟨h1,c⟩ | ⟨h1,c,_⟩)
   ·exact⟨h1,(H.old r c).2⟩
   ·exact⟨h1,c⟩
  ·rintro⟨h1,c⟩
   by_cases h:id∈r
   ·exact .inr ⟨h1,c,h⟩
   ·exact .inl ⟨h1,H.new r c h⟩
def xb (g:List Int→Bool) (id:Int) (A:Nat→List Int):Nat→List (List (List Int))→List (List Int)→List (List Int)→List (List (List Int))
 | _,[],_,_=>[]
 | k,L :: Ls,B,F=>(L++C0 g id B F (A k)) :: xb g id A (k+1) Ls L (C0 g id B F (A k))
theorem zO {g g':List Int→Bool} {id:Int} {A:Nat→List Int} {K:Nat} (H:Cj g g' id A K):∀ (Ls:List (List (List Int))) (k:Nat) (B F:List (List Int)),k+Ls.length≤K→Has g k B→Has (fun r=>g' r && decide (id∈r)) k F→(∀ i L,Ls[i]?=some L→Has g (k+1+i) L) →
  ∀ i L,(xb g' id A k Ls B F)[i]?=some L→Has g' (k+1+i) L
 | [],k,B,F,_,_,_,_,i,L,h=>by simp[xb] at h
 | L :: Ls,k,B,F,c,d,e,a,i,M,h=>by
  rw[gh] at c
  have hm:=Ie H NR d e
  have b:Has g (k+1) L:=by simpa using a 0 L rfl
  cases i with
  | zero=>
   simp only[xb,F0,Option.some.injEq] at h
   subst h
   exact FI H b hm
  | succ i=>
   simp only[xb,NX] at h
   have:=zO H Ls (k+1) L _ NR b hm (fun j N f=>by
    have:=a (j+1) N (by simpa using f)
    rwa [show k+1+(j+1)=k+1+1+j by omega] at this) i M h
   rwa [show k+1+(i+1)=k+1+1+i by omega]
theorem Gg {g g':List Int→Bool} {id:Int} {A:Nat→List Int} {K:Nat} (H:Cj g g' id A K) (a:g []=true) {Ls:List (List (List Int))} (d:Ls.length≤K) (b:∀ i L,Ls[i]?=some L→Has g (i+1) L):∀ i L,(xb g' id A 0 Ls [[]] [])[i]?=some L→Has g' (i+1) L:=by
 intro i L h
 have:=zO H Ls 0 [[]] [] NR ⟨NS,fun r=>by
  constructor
  ·intro h;simp at h;subst h;exact⟨rfl,a⟩
  ·rintro⟨h,_⟩;simp[qa.1 h]⟩ ⟨NS,fun r=>by
  constructor
  ·intro h;cases h
  ·rintro⟨h,h1⟩;have:=qa.1 h;subst this;simp at h1⟩ (fun j N c=>by
   have:=b j N c
   rwa [show 0+1+j=j+1 by omega]) i L h
 rwa [show i+1=0+1+i by omega]
theorem H6 {g g':List Int→Bool} {id:Int} (h:∀ r,g' r=true↔g r=true∧id ∉ r) {k:Nat} {L:List (List Int)} (a:Has g k L):Has g' k (L.filter fun r=>!decide (id∈r)):=by
 refine⟨a.nd.filter _,fun r=>?_⟩
 rw[nt,a.iff,h]
 simp only[Bool.not_eq_true',decide_eq_false_iff_not,and_assoc]
theorem xD {xs:List ag} {v:Int} (h:∀ y∈xs,y.Id≠v):aF xs v=(Da,false):=by
 unfold aF
 rw[NY.2 fun y a=>by simpa using h y a]
theorem xY {xs:List ag} {x:ag} {v:Int} (h:v≠x.Id):aF (xs++[x]) v=aF xs v:=by
 unfold aF
 rw[List.find?_append,List.find?_cons_of_neg (by simpa using fun e:x.Id=v=>h e.symm),List.find?_nil,Option.or_none]
theorem y6 {xs:List ag} {x:ag} (h:∀ y∈xs,y.Id≠x.Id):aF (xs++[x]) x.Id=(x.F,true):=by
 unfold aF
 rw[List.find?_append,NY.2 fun y a=>by simpa using h y a]
 simp
theorem wE {xs:List ag} {v:Int} (h:(aF xs v).2=true):∃ x∈xs,x.Id=v∧aF xs v=(x.F,true):=by
 unfold aF at h ⊢
 split at h
 ·rename_i x a
  exact⟨x,w2 a,by simpa using List.find?_some a,rfl⟩
 ·cases h
theorem kR {xs:List ag}:∀ (ps:List ay) (ids:List Int) (l:List au),(bd xs ps ids l).2=true→∀ v∈ids,(aF xs v).2=true
 | [],[],l,h,v,a=>by cases a
 | [],u :: ids,l,h,v,a=>by cases h
 | p :: ps,[],l,h,v,a=>by cases a
 | p :: ps,u :: ids,l,h,v,a=>by
  unfold bd at h
  split at h
  ·rename_i c
   rcases hE.1 a with rfl | a
   ·exact c.1
   ·exact kR ps ids _ h v a
  ·cases h
theorem oA {xs a:List ag}:∀ (ps:List ay) (ids:List Int) (l:List au),(∀ v∈ids,aF xs v=aF a v)→bd xs ps ids l=bd a ps ids l
 | [],[],l,h=>rfl
 | [],u :: ids,l,h=>rfl
 | p :: ps,[],l,h=>rfl
 | p :: ps,u :: ids,l,h=>by
  unfold bd
  rw[h u NS,oA ps ids _ fun v b=>h v (by simp[b])]
theorem y5 {xs:List ag} {y:Int}:∀ (ps:List ay) (row:List Int) (l:List au),(bd xs (ps.take (row.length+1)) (row++[y]) l).2=true→(bd xs (ps.take row.length) row l).2=true
 | [],row,l,h=>by cases row <;> simp[bd] at h
 | p :: ps,[],l,h=>by simp[bd]
 | p :: ps,v :: row,l,h=>by
  simp only[gh,NU,hK,bd] at h ⊢
  split at h
  ·rename_i c
   rw[if_pos c]
   exact y5 ps row _ h
  ·cases h
def okR (xs:List ag) (ps:List ay) (r:List Int):Bool:=(okB xs ps r).2
theorem AF {xs:List ag} {ps:List ay} {x:ag} {r:List Int} (h:x.Id ∉ r):okB (xs++[x]) ps r=okB xs ps r:=by
 unfold okB
 exact oA _ _ _ fun v a=>xY fun e=>h (e ▸ a)
theorem HG {xs:List ag} {ps:List ay} {x:ag} {A:Nat→List Int} (b:∀ y∈xs,y.Id≠x.Id)
  (c:∀ k p,ps[k]?=some p→∀ y∈xs++[x],gp (aW p) y.F=true→y.Id∈A k) (d:∀ k,k < ps.length→(A k).Nodup):Cj (okR xs ps) (okR (xs++[x]) ps) x.Id A ps.length:=by
 have key:∀ r,okR xs ps r=true→x.Id ∉ r:=fun r h hm=>by
  have:=kR _ _ _ h x.Id hm
  rw[xD b] at this
  cases this
 refine⟨fun r h=>?_,fun r h hm=>?_,fun r y h=>?_,fun r y i h=>?_,d⟩
 ·have hk:=key r h
  exact⟨hk,by unfold okR;rw[AF hk];exact h⟩
 ·unfold okR at h ⊢
  rwa [AF hm] at h
 ·unfold okR okB at h ⊢
  rw[gi,gh,gk,ho] at h
  exact y5 ps r [] h
 ·have f:=kR _ _ _ h y NS
  unfold okR okB at h
  rw[gi,gh,gk,ho] at h
  obtain⟨p,hp,a⟩:=sA ps r [] h
  obtain⟨z,g,rfl,e⟩:=wE f
  rw[e] at a
  exact c _ p hp z g a
def gu (l:List ao):List (List Int):=l.map (·.Ids)
theorem uw {xs:List ag} {ps ns:List ay} (row:List Int):∀ (ids:List Int),gu (gw xs ps ns row ids)=z6 (okR xs ps) row ids
 | []=>rfl
 | v :: ids=>by
  have a:=uw (xs:=xs) (ps:=ps) (ns:=ns) row ids
  unfold gw gu z6 at *
  rw[ks,q2,a,hN,j5]
  unfold o2
  by_cases h:(okB xs ps (row++[v])).2=true
  ·rw[if_pos h,if_pos (show okR xs ps (row++[v])=true from h)];rfl
  ·rw[if_neg h,if_neg (show ¬ okR xs ps (row++[v])=true from h)];rfl
theorem rA {xs:List ag} {ps ns:List ay} (ids:List Int):∀ (B:List ao),gu (B.flatMap fun t=>gw xs ps ns t.Ids ids)=(gu B).flatMap fun r=>z6 (okR xs ps) r ids
 | []=>rfl
 | t :: B=>by
  have a:=rA (xs:=xs) (ps:=ps) (ns:=ns) ids B
  have h1:=uw (xs:=xs) (ps:=ps) (ns:=ns) t.Ids ids
  unfold gu at *
  rw[ks,q2,a,h1,hN,ks]
theorem CU {xs:List ag} {ps ns:List ay} {id:Int} {k:Nat} {B F:List ao} {A:List Int} {a b:List (List Int)} (d:k=0→a=[[]]∧b=[]) (hk:k≠0→a=gu B∧b=gu F):gu (iS xs ps ns id k B F A)=C0 (okR xs ps) id a b A:=by
 unfold iS C0
 by_cases c:k=0
 ·obtain⟨rfl,rfl⟩:=d c
  rw[if_pos c,uw]
  simp
 ·obtain⟨rfl,rfl⟩:=hk c
  rw[if_neg c]
  have h1:=rA (xs:=xs) (ps:=ps) (ns:=ns) [id] B
  have e:=rA (xs:=xs) (ps:=ps) (ns:=ns) A F
  unfold gu at *
  rw[q2,h1,e]
theorem ya {xs:List ag} {ps ns:List ay} {id:Int} {A:Nat→List Int}:∀ (Ls:List aq) (k:Nat) (B F:List ao) (a b:List (List Int)),(k=0→a=[[]]∧b=[])→(k≠0→a=gu B∧b=gu F)→(m8 xs ps ns id A k Ls B F).map (fun L=>gu L.Toks)=xb (okR xs ps) id A k (Ls.map fun L=>gu L.Toks) a b
 | [],k,B,F,a,b,c,hk=>rfl
 | L :: Ls,k,B,F,a,b,c,hk=>by
  have hm:=CU (xs:=xs) (ps:=ps) (ns:=ns) (id:=id) (A:=A k) c hk
  have d:=ya (xs:=xs) (ps:=ps) (ns:=ns) (id:=id) (A:=A) Ls (k+1) L.Toks (iS xs ps ns id k B F (A k)) (gu L.Toks) (C0 (okR xs ps) id a b (A k)) (fun e=>by omega) (fun _=>⟨rfl,hm.symm⟩)
  unfold m8
  rw[hN,hN,d,xb]
  congr 1
  unfold gu at *
  rw[q2,hm]
def ke (xs:List ag) (ps ns:List ay) (k:Nat) (r:List Int):List Int:=if k+1=ps.length then fj xs ns (okB xs ps r).1 else []
theorem uh {xs:List ag} {ps ns:List ay} {row ids:List Int}:∀ t∈gw xs ps ns row ids,t.Hits=ke xs ps ns row.length t.Ids:=by
 intro t a
 unfold gw at a
 obtain⟨v,_,h⟩:=ix.1 a
 unfold o2 at h
 split at h
 ·simp only[hY] at h
  subst h
  rfl
 ·cases h
theorem DH {xs:List ag} {ps ns:List ay} {id:Int} {k:Nat} {B F:List ao} {A:List Int} (b:∀ t∈B,t.Ids.length=k) (c:∀ t∈F,t.Ids.length=k):∀ t∈iS xs ps ns id k B F A,t.Hits=ke xs ps ns k t.Ids:=by
 intro t a
 unfold iS at a
 split at a
 ·rename_i e;subst e;exact uh t a
 ·rcases gb.1 a with a | a
  ·obtain⟨u,hu,h⟩:=ix.1 a
   have:=uh t h
   rwa [b u hu] at this
  ·obtain⟨u,hu,h⟩:=ix.1 a
   have:=uh t h
   rwa [c u hu] at this
theorem yM {xs:List ag} {ps ns:List ay} {id:Int} {A:Nat→List Int} (e:xs.length≤1048576):∀ (Ls:List aq) (k:Nat) (B F:List ao),(∀ t∈B,t.Ids.length=k)→(∀ t∈F,t.Ids.length=k)→(∀ i L,Ls[i]?=some L→∀ t∈L.Toks,t.Ids.length=k+i+1∧t.Hits=ke xs ps ns (k+i) t.Ids) →
  ∀ i L,(m8 xs ps ns id A k Ls B F)[i]?=some L→∀ t∈L.Toks,t.Hits=ke xs ps ns (k+i) t.Ids
 | [],k,B,F,b,c,d,i,L,h=>by simp[m8] at h
 | M :: Ls,k,B,F,b,c,d,i,L,h=>by
  have hm:=DH (xs:=xs) (ps:=ps) (ns:=ns) (id:=id) (A:=A k) b c
  have g:=Al (xs:=xs) (ps:=ps) (ns:=ns) (id:=id) (A:=A k) e b c
  have f:=d 0 M rfl
  unfold m8 at h
  cases i with
  | zero=>
   simp only[F0,Option.some.injEq] at h
   subst h
   intro t a
   rcases gb.1 a with a | a
   ·exact (f t a).2
   ·exact hm t a
  | succ i=>
   have:=yM (ps:=ps) (ns:=ns) (id:=id) (A:=A) e Ls (k+1) M.Toks _ (fun t a=>(f t a).1) (fun t a=>(g t a).1) (fun j N l=>by
    have:=d (j+1) N (by simpa using l)
    rwa [show k+(j+1)=k+1+j by omega] at this) i L (by simpa using h)
   rwa [show k+1+i=k+(i+1) by omega] at this
theorem xS {xs:List ag} {x:ag} {l:List au} (b:xs.length≤1048576):∀ (ns:List ay),kX x.F l 1 ns (fj xs ns l)=fj (xs++[x]) ns l
 | []=>rfl
 | p :: ns=>by
  have a:=xS (x:=x) (l:=l) b ns
  have h1:=xn p l xs
  unfold fj at a ⊢
  rw[hN,hN,kX,a]
  congr 1
  unfold sL
  rw[List.countP_append,List.countP_singleton]
  unfold sL at h1
  split
  ·rw[wr NR NR];omega
  ·simp
def Cs (xs:List ag) (r:af) (w:aP):Prop:=∀ k L,w.Levels[k]?=some L→Has (okR xs (pos r.Pats)) (k+1) (gu L.Toks)∧∀ t∈L.Toks,t.Hits=ke xs (pos r.Pats) (neg r.Pats) k t.Ids
theorem Has.len {p:List Int→Bool} {k:Nat} {l:List ao} (h:Has p k (gu l)):∀ t∈l,t.Ids.length=k∧p t.Ids=true:=fun t a=>(h.iff t.Ids).1 (hC.2 ⟨t,a,rfl⟩)
theorem CD {xs:List ag} {x:ag} {r:af} {w:aP} (g:xs.length≤1048576) (i:∀ y∈xs,y.Id≠x.Id) (s:w.Levels.length=(pos r.Pats).length) (h:Cs xs r w) :
  ∀ k L,(fO (xs++[x]) (pos r.Pats) (neg r.Pats) x.F 1 w).Levels[k]?=some L→Has (okR xs (pos r.Pats)) (k+1) (gu L.Toks)∧∀ t∈L.Toks,t.Hits=ke (xs++[x]) (pos r.Pats) (neg r.Pats) k t.Ids:=by
 have key:∀ q,okR xs (pos r.Pats) q=true→okB (xs++[x]) (pos r.Pats) q=okB xs (pos r.Pats) q:=fun q j=>AF fun hm=>by
  have:=kR _ _ _ j x.Id hm
  rw[xD i] at this
  cases this
 have l:∀ k L,w.Levels[k]?=some L→k≠w.Levels.length - 1→Has (okR xs (pos r.Pats)) (k+1) (gu L.Toks)∧∀ t∈L.Toks,t.Hits=ke (xs++[x]) (pos r.Pats) (neg r.Pats) k t.Ids:=fun k L a hk=>by
  obtain⟨h1,c⟩:=h k L a
  refine⟨h1,fun t b=>?_⟩
  have:=(gx.1 a).1
  rw[c t b]
  unfold ke
  rw[if_neg NR,if_neg NR]
 intro k L a
 unfold fO at a
 split at a
 ·rename_i M d
  simp only at a
  rw[D0] at a
  split at a
  ·rename_i e
   split at a
   ·simp only[Option.some.injEq] at a
    subst a
    subst e
    obtain⟨h1,c⟩:=h _ M d
    have v:=(gx.1 d).1
    refine⟨?_,fun t b=>?_⟩
    ·unfold gu at h1 ⊢
     rw[tt];exact h1
    ·simp only at b
     unfold jO at b
     obtain⟨u,hu,rfl⟩:=hC.1 b
     have m:=c u hu
     have f:=(Has.len h1 u hu).2
     have hk:=key _ f
     have n:(okB (xs++[x]) (pos r.Pats) u.Ids).2=true:=by rw[hk];exact f
     rw[if_pos n]
     simp only
     rw[m,hk]
     unfold ke
     rw[if_pos NR,if_pos NR,xS g,hk]
   ·cases a
  ·rename_i e
   exact l k L a fun o=>e o.symm
 ·rename_i p
  have:=Oc.1 p
  have:=(gx.1 a).1
  omega
theorem JG {xs:List ag} {x:ag} {as:List bF} {r:af} {c:aG} {w:aP} (u:xs.length+1≤1048576) (d:∀ y∈xs,y.Id≠x.Id) (f:w.Levels.length=(pos r.Pats).length)
  (g:∀ k p,(pos r.Pats)[k]?=some p→uk as c k=((xs++[x]).filter fun y=>gp (aW p) y.F).map (·.Id)) (l:((xs++[x]).map (·.Id)).Nodup) (h:Cs xs r w):Cs (xs++[x]) r (oS (xs++[x]) as x.F x.Id r c w):=by
 have j:=CD (x:=x) NR d f h
 have hlen:(fO (xs++[x]) (pos r.Pats) (neg r.Pats) x.F 1 w).Levels.length=w.Levels.length:=by unfold fO;split <;> simp
 have G:=HG (xs:=xs) (ps:=pos r.Pats) (x:=x) (A:=uk as c) d
  (fun k p hp y m n=>by rw[g k p hp];exact hC.2 ⟨y,nt.2 ⟨m,n⟩,rfl⟩)
  (fun k hk=>by
   rw[g k _ (gj hk)]
   exact List.Nodup.sublist (List.Sublist.map _ (List.filter_sublist)) l)
 have o:okR xs (pos r.Pats) []=true:=by unfold okR okB;simp[bd]
 have e:=ya (xs:=xs++[x]) (ps:=pos r.Pats) (ns:=neg r.Pats) (id:=x.Id) (A:=uk as c) (fO (xs++[x]) (pos r.Pats) (neg r.Pats) x.F 1 w).Levels 0 [] [] [[]] [] (fun _=>⟨rfl,rfl⟩) (fun e=>absurd rfl e)
 have q:=Gg G o (Ls:=(fO (xs++[x]) (pos r.Pats) (neg r.Pats) x.F 1 w).Levels.map fun L=>gu L.Toks) (by rw[q7,hlen,f];exact hn _) (fun i L a=>by
  rw[p5,vj] at a
  obtain⟨M,b,rfl⟩:=a
  exact (j i M b).1)
 intro k L a
 refine⟨q k _ ?_,?_⟩
 ·rw[← e,p5]
  unfold oS at a
  rw[show (m8 (xs++[x]) (pos r.Pats) (neg r.Pats) x.Id (uk as c) 0 (fO (xs++[x]) (pos r.Pats) (neg r.Pats) x.F 1 w).Levels [] [])[k]?=some L from a]
  rfl
 ·have:=yM (xs:=xs++[x]) (ps:=pos r.Pats) (ns:=neg r.Pats) (id:=x.Id) (A:=uk as c) (by simp;omega) (fO (xs++[x]) (pos r.Pats) (neg r.Pats) x.F 1 w).Levels 0 [] [] NS NS (fun i M b t hm=>by
   obtain⟨h1,s⟩:=j i M b
   rw[ho]
   exact⟨(Has.len h1 t hm).1,s t hm⟩) k L a
  rwa [ho] at this
def pP (n:ce) (xs:List ag):List bF:=n.Alphas.map fun a=>⟨(xs.filter fun x=>gp a x.F).map (·.Id)⟩
theorem A5 {x:ag} {xs:List ag}:∀ (as:List av),d5 x.F x.Id as (as.map fun a=>⟨(xs.filter fun x=>gp a x.F).map (·.Id)⟩)=as.map fun a=>⟨((xs++[x]).filter fun x=>gp a x.F).map (·.Id)⟩
 | []=>rfl
 | a :: as=>by
  rw[hN,hN,d5,A5 as]
  congr 1
  rw[List.filter_append,j5]
  cases gp a x.F <;> simp
structure sW (d:bv) (n:ce) (xs:List ag) (m:aN):Prop where
 al:m.Alphas=pP n xs
 rows:∀ (i:Nat) (r:af) (w:aP),d.Rules[i]?=some r→m.Rules[i]?=some w→Cs xs r w
theorem Df {d:bv} {n:ce} {m:aN} {xs:List ag} {x:ag} {nx:Int} {j:Nat} (C:xs.length+1≤1048576) (b:((xs++[x]).map (·.Id)).Nodup) (q:Ats n.Alphas n.Chains d.Rules) (f:n8 d n j m) (h:sW d n xs m):sW d n (xs++[x]) (yL d n m ⟨xs++[x],nx⟩ x.Id):=by
 have s:∀ y∈xs,y.Id≠x.Id:=fun y D e=>by
  rw[q2,nn] at b
  exact b.2.2 y.Id (hC.2 ⟨y,D,rfl⟩) x.Id NS e
 have t:=y6 s
 have u:d5 x.F x.Id n.Alphas m.Alphas=pP n (xs++[x]):=by rw[h.al];exact A5 n.Alphas
 have E:=uG (g:=oS (xs++[x]) (d5 x.F x.Id n.Alphas m.Alphas) x.F x.Id) d.Rules n.Chains m.Rules f.lr.symm (by rw[q.len,f.lr])
 refine⟨?_,fun i r v a l=>?_⟩
 ·unfold yL
  simp only[t]
  exact u
 ·unfold yL at l
  simp only[t] at l
  obtain⟨O,c,w,z,a2,a3,rfl⟩:=E.2 i v l
  rw[a] at z
  cases z
  refine JG C s (f.rows i r w a a3).1 (fun k p hp=>?_) b (h.rows i r w a a3)
  obtain⟨F,G⟩:=gx.1 a
  obtain⟨H,I⟩:=gx.1 a2
  have o:=(q.get i H F).1
  rw[I,G] at o
  obtain⟨A,K⟩:=gx.1 hp
  have B:k < c.Pos.length:=by rw[o.len];exact A
  have L:=o.get k B A
  obtain⟨a0,_,M⟩:=a8 L
  have N:idx (d5 x.F x.Id n.Alphas m.Alphas) c.Pos[k]=some ⟨((xs++[x]).filter fun y=>gp (aW p) y.F).map (·.Id)⟩:=by
   rw[u]
   unfold idx pP
   rw[if_pos a0,p5,M,← K]
   rfl
  exact (wi (ah B) N).symm
def uE (id:Int) (xs:List ag):List ag:=xs.filter fun y=>!decide (y.Id=id)
theorem xQ {id v:Int} (h:v≠id):∀ (xs:List ag),aF (uE id xs) v=aF xs v
 | []=>rfl
 | y :: t=>by
  have a:=xQ h t
  unfold uE at a ⊢
  rw[j5]
  by_cases c:y.Id=id
  ·rw[decide_eq_true c,hA,if_neg NS,a,ky,if_neg NR]
  ·rw[decide_eq_false c,hI,if_pos rfl,ky,ky,a]
theorem B4 {id:Int} {xs:List ag} {ps:List ay} {q:List Int} (h:id ∉ q):okB (uE id xs) ps q=okB xs ps q:=by
 unfold okB
 exact oA _ _ _ fun v a=>xQ (fun e=>h (by rw[← e];exact a)) xs
theorem Jr {id:Int} {xs:List ag} {ps:List ay} (q:List Int):okR (uE id xs) ps q=true↔okR xs ps q=true∧id ∉ q:=by
 unfold okR
 constructor
 ·intro h
  have a:id ∉ q:=fun b=>by
   obtain⟨x,c,e,_⟩:=wE (kR _ _ _ h id b)
   have:=(nt.1 c).2
   simp[e] at this
  rw[B4 a] at h
  exact⟨h,a⟩
 ·rintro⟨h,a⟩
  rw[B4 a];exact h
theorem EU {x:ag} (P:ag→Bool):∀ (xs:List ag),(xs.map (·.Id)).Nodup→x∈xs→xs.countP P=(uE x.Id xs).countP P+if P x=true then 1 else 0
 | [],_,h=>by cases h
 | y :: t,a,h=>by
  rw[hN,List.nodup_cons] at a
  unfold uE
  rw[j5]
  rcases hE.1 h with rfl | h
  ·have e:(t.filter fun y=>!decide (y.Id=x.Id))=t:=List.filter_eq_self.2 fun z d=>by
    have:z.Id≠x.Id:=fun e=>a.1 (hC.2 ⟨z,d,e⟩)
    simp[this]
   rw[decide_eq_true rfl,hA,if_neg NS,e,NZ]
  ·have c:y.Id≠x.Id:=fun e=>a.1 (hC.2 ⟨x,h,e.symm⟩)
   have b:=EU P t a.2 h
   unfold uE at b
   rw[decide_eq_false c,hI,if_pos rfl,NZ,NZ,b]
   omega
theorem A3 {xs:List ag} {x:ag} {l:List au} (e:xs.length≤1048576) (a:(xs.map (·.Id)).Nodup) (hm:x∈xs):∀ (ns:List ay),kX x.F l (-1) ns (fj xs ns l)=fj (uE x.Id xs) ns l
 | []=>rfl
 | p :: ns=>by
  have b:=A3 (l:=l) e a hm ns
  have h1:=xn p l xs
  unfold fj at b ⊢
  rw[hN,hN,kX,b]
  congr 1
  have d:=EU (fun y=>(bw p y.F l).2) xs a hm
  unfold sL at h1 ⊢
  split
  ·rename_i c
   simp only[c,if_true] at d
   rw[wr NR NR];omega
  ·rename_i c
   simp only[c,fI,if_false] at d
   omega
theorem C5 (id:Int) (l:List ao):gu (ju id l)=(gu l).filter fun r=>!decide (id∈r):=by
 unfold gu ju
 rw[List.filter_map];rfl
theorem FW {xs:List ag} {x:ag} {r:af} {w:aP} (f:xs.length≤1048576) (g:(xs.map (·.Id)).Nodup) (hm:x∈xs) (y:w.Levels.length=(pos r.Pats).length) (h:Cs xs r w):Cs (uE x.Id xs) r (nH xs x.F x.Id r w):=by
 have base:∀ (k:Nat) (M:aq),(w.Levels.map (mO x.Id))[k]?=some M→Has (okR (uE x.Id xs) (pos r.Pats)) (k+1) (gu M.Toks)∧∀ t∈M.Toks,t.Hits=ke xs (pos r.Pats) (neg r.Pats) k t.Ids∧x.Id ∉ t.Ids∧okR xs (pos r.Pats) t.Ids=true:=fun k M b=>by
  simp only[p5,vj] at b
  obtain⟨L,a,rfl⟩:=b
  obtain⟨h1,d⟩:=h k L a
  refine⟨?_,fun t c=>?_⟩
  ·show Has _ _ (gu (ju x.Id L.Toks))
   rw[C5]
   exact H6 (fun q=>Jr q) h1
  ·have hm:=nt.1 c
   exact⟨d t hm.1,by simpa using hm.2,(Has.len h1 t hm.1).2⟩
 have i:∀ (k:Nat) (M:aq),(w.Levels.map (mO x.Id))[k]?=some M→k≠w.Levels.length - 1→Has (okR (uE x.Id xs) (pos r.Pats)) (k+1) (gu M.Toks)∧∀ t∈M.Toks,t.Hits=ke (uE x.Id xs) (pos r.Pats) (neg r.Pats) k t.Ids:=fun k M b hk=>by
  obtain⟨h1,d⟩:=base k M b
  have:=(gx.1 b).1
  simp only[q7] at this
  refine⟨h1,fun t c=>?_⟩
  rw[(d t c).1]
  unfold ke
  rw[if_neg NR,if_neg NR]
 intro k L a
 unfold nH fO at a
 simp only[q7] at a
 split at a
 ·rename_i M b
  simp only at a
  rw[D0] at a
  split at a
  ·rename_i e
   split at a
   ·simp only[Option.some.injEq] at a
    subst a
    subst e
    obtain⟨h1,d⟩:=base _ M b
    have j:=(gx.1 b).1
    simp only[q7] at j
    refine⟨?_,fun t c=>?_⟩
    ·unfold gu at h1 ⊢
     rw[tt];exact h1
    ·simp only at c
     unfold jO at c
     obtain⟨u,hu,rfl⟩:=hC.1 c
     obtain⟨l,m,n⟩:=d u hu
     have o:(okB xs (pos r.Pats) u.Ids).2=true:=n
     rw[if_pos o]
     simp only
     rw[l]
     unfold ke
     rw[if_pos NR,if_pos NR,A3 f g hm,B4 m]
   ·cases a
  ·rename_i e
   exact i k L a fun p=>e p.symm
 ·rename_i s
  have:=Oc.1 s
  have v:=(gx.1 a).1
  simp only[q7] at this v
  omega
theorem Dv (n:ce) (id:Int) (xs:List ag):(pP n xs).map (B7 id)=pP n (uE id xs):=by
 unfold pP
 rw[List.map_map]
 refine List.map_congr_left fun a _=>?_
 unfold B7 uE
 simp only[Function.comp,bF.mk.injEq]
 rw[List.filter_map,List.filter_filter,List.filter_filter]
 congr 1
 refine List.filter_congr fun y _=>?_
 simp only[Function.comp,Bool.and_comm]
theorem JI {d:bv} {n:ce} {m:aN} {xs:List ag} {x:ag} {nx:Int} {j:Nat} (o:xs.length≤1048576) (a:(xs.map (·.Id)).Nodup) (hm:x∈xs) (f:n8 d n j m) (h:sW d n xs m):sW d n (uE x.Id xs) (wN d m ⟨xs,nx⟩ x.Id):=by
 have p:aF xs x.Id=(x.F,true):=by
  have:∀ (l:List ag),(l.map (·.Id)).Nodup→x∈l→aF l x.Id=(x.F,true):=by
   intro l
   induction l with
   | nil=>intro _ h;cases h
   | cons y t q=>
    intro a h
    rw[hN,List.nodup_cons] at a
    rw[ky]
    rcases hE.1 h with rfl | h
    ·rw[if_pos rfl]
    ·rw[if_neg fun e=>a.1 (hC.2 ⟨x,h,e.symm⟩)]
     exact q a.2 h
  exact this xs a hm
 have s:=ug (g:=nH xs x.F x.Id) d.Rules m.Rules f.lr.symm
 refine⟨?_,fun i r v b c=>?_⟩
 ·unfold wN
  simp only
  rw[h.al]
  exact Dv n x.Id xs
 ·unfold wN at c
  simp only[p] at c
  obtain⟨u,w,k,a3,rfl⟩:=s.2 i v c
  rw[b] at k
  cases k
  exact FW o a hm (f.rows i r w b a3).1 (h.rows i r w b a3)
theorem xz {α β:Type} {f:α→β→Bool}:∀ (xs:List α) (c:List β),xs.length=c.length→(∀ (i:Nat) (x:α) (y:β),xs[i]?=some x→c[i]?=some y→f x y=true)→nj f xs c=true
 | [],[],_,_=>rfl
 | [],_ :: _,h,_=>by simp at h
 | _ :: _,[],h,_=>by simp at h
 | x :: xs,y :: c,h,d=>by
  unfold nj
  rw[d 0 x y rfl rfl,xz xs c (by simpa using h) fun i a b e g=>d (i+1) a b (by simpa using e) (by simpa using g)]
  rfl
theorem IP {d:bv} {n:ce} {m x:aN} {xs:List ag} {j k:Nat} (hm:n8 d n j m) (g:n8 d n k x) (h:sW d n xs m) (o:sW d n xs x):EP m x=true:=by
 unfold EP
 rw[gm]
 refine⟨xz _ _ (by rw[hm.la,g.la]) fun i a b c e=>?_,xz _ _ (by rw[hm.lr,g.lr]) fun i v w c e=>?_⟩
 ·rw[h.al] at c
  rw[o.al,c] at e
  cases e
  exact decide_eq_true rfl
 ·have G:=(gx.1 c).1
  have f:d.Rules[i]?=some (d.Rules[i]'(by have:=hm.lr;omega)):=gj _
  obtain⟨p,_⟩:=hm.rows i _ v f c
  obtain⟨s,_⟩:=g.rows i _ w f e
  have u:=h.rows i _ v f c
  have y:=o.rows i _ w f e
  unfold oH
  refine xz _ _ (by rw[p,s]) fun q L M z A=>?_
  obtain⟨B,a2⟩:=u q L z
  obtain⟨C,D⟩:=y q M A
  unfold tj
  refine decide_eq_true ?_
  have form:∀ (l:List ao),(∀ t∈l,t.Hits=ke xs (pos (d.Rules[i]'(by have:=hm.lr;omega)).Pats) (neg (d.Rules[i]'(by have:=hm.lr;omega)).Pats) q t.Ids)→l=(gu l).map fun r=>⟨r,ke xs (pos (d.Rules[i]'(by have:=hm.lr;omega)).Pats) (neg (d.Rules[i]'(by have:=hm.lr;omega)).Pats) q r⟩:=fun l E=>by
   unfold gu
   rw[List.map_map]
   conv=>lhs;rw[← List.map_id l]
   refine List.map_congr_left fun t F=>?_
   have:=E t F
   cases t
   simp only at this
   simp[this]
  rw[form L.Toks a2,form M.Toks D]
  exact (Has.perm B C).map _
theorem MC {d:bv} {n:ce} {nx:Int} (a:Ats n.Alphas n.Chains d.Rules):∀ (rest done:List ag) (m:aN),done.length+rest.length≤40→((done++rest).map (·.Id)).Nodup→n8 d n done.length m→sW d n done m→sW d n (done++rest) (vI d n nx done rest m)
 | [],done,m,_,_,b,h=>by simpa[vI] using h
 | x :: t,done,m,e,c,b,h=>by
  simp only[gh] at e
  have f:((done++[x]).map (·.Id)).Nodup:=by
   refine List.Nodup.sublist (List.Sublist.map _ ?_) c
   simp
  have h1:=t7 (s:=⟨done++[x],nx⟩) (id:=x.Id) NR (by simp;omega) a.len b
  have g:=Df (nx:=nx) NR f a b h
  have:=MC (nx:=nx) a t (done++[x]) _ (by simp;omega) (by simpa using c) (by simpa using h1) g
  unfold vI
  simpa using this
theorem Kc {d:bv} {n:ce}:sW d n [] (l5 n):=by
 unfold l5
 refine⟨?_,fun i r w g a=>?_⟩
 ·unfold pP
  refine List.ext_getElem NS fun i h1 h=>by simp
 ·simp only[p5,vj] at a
  obtain⟨c,j,rfl⟩:=a
  intro k L b
  simp only[qS] at b
  obtain⟨_,e⟩:=gx.1 b
  rw[O7] at e
  subst e
  refine⟨⟨by simp[gu],fun q=>?_⟩,NS⟩
  simp only[gu,rv,List.not_mem_nil,false_iff,not_and]
  intro f hk
  have:=kR _ _ _ hk
  cases q with
  | nil=>simp at f
  | cons v q=>
   have:=this v NS
   simp[aF] at this
theorem K8 {nx:Int}:∀ (t done:List ag),ny nx done t=true→(done.Pairwise fun a b=>a.Id < b.Id)→(done++t).Pairwise fun a b=>a.Id < b.Id
 | [],done,_,h=>by simpa using h
 | x :: t,done,e,h=>by
  unfold ny at e
  simp only[gm] at e
  have d:=e.2.1
  have g:(done++[x]).Pairwise fun a b=>a.Id < b.Id:=by
   rw[l0]
   refine⟨h,NS,fun a c b f=>?_⟩
   simp only[hY] at f
   subst f
   unfold m9 at d
   rcases Oa done with rfl | ⟨q,y,rfl⟩
   ·cases c
   ·rw[Ob] at c d h
    rw[List.getLast?_concat] at d
    have d:=of_decide_eq_true d
    rcases gb.1 c with c | c
    ·have:=(l0.1 h).2.2 a c y NS
     omega
    ·simp only[hY] at c
     subst c;exact d
  have:=K8 t (done++[x]) e.2.2.2 g
  simpa using this
theorem tX {s:ac} (h:gl s=true):(s.Items.map (·.Id)).Nodup:=by
 unfold gl at h
 simp only[gm] at h
 have:=K8 s.Items [] h.2.2 NS
 rw[ha] at this
 unfold List.Nodup
 rw[List.pairwise_map]
 exact this.imp fun h=>by omega
theorem II {d:bv} {xs:List ag} {x:aN} {j:Nat} (v:Ats (bS d).Alphas (bS d).Chains d.Rules) (a:n8 d (bS d) j x) (A:sW d (bS d) xs x) (hp:∀ r∈d.Rules,1≤(pos r.Pats).length):w4 (bS d) x=true:=by
 have g:=v.len
 unfold w4
 rw[decide_eq_true a.la,decide_eq_true (by rw[a.lr,g])]
 simp only[hV]
 have key:∀ (i:Nat) (c:aG) (w:aP),(bS d).Chains[i]?=some c→x.Rules[i]?=some w→vk c w=true:=fun i c w m b=>by
  obtain⟨h1,B⟩:=gx.1 m
  have n:i < d.Rules.length:=by rw[← g];exact h1
  have o:=v.get i h1 n
  rw[B] at o
  have y:=a.rows i _ w (gj n) b
  have C:=A.rows i _ w (gj n) b
  have D:c.Pos.length=(pos d.Rules[i].Pats).length:=o.1.len
  have E:c.Neg.length=(neg d.Rules[i].Pats).length:=o.2.len
  unfold vk
  rw[decide_eq_true (by rw[y.1,D])]
  simp only[hV]
  have:∀ (l:List aq) (k:Nat),(∀ q L,l[q]?=some L→w.Levels[k+q]?=some L)→Ch c k l=true:=by
   intro l
   induction l with
   | nil=>intro k _;rfl
   | cons L l p=>
    intro k hk
    have s:=hk 0 L rfl
    rw[k0] at s
    obtain⟨I,a2⟩:=y.2 k L s
    obtain⟨K,F⟩:=C k L s
    unfold Ch
    rw[p (k+1) fun q M u=>by
     have:=hk (q+1) M (by simpa using u)
     rwa [show k+(q+1)=k+1+q by omega] at this,Bool.and_true,List.all_eq_true]
    intro t z
    have N:=(a2 t z).1
    have G:=F t z
    unfold xM
    rw[G]
    unfold ke
    by_cases e:k+1=(pos d.Rules[i].Pats).length
    ·rw[if_pos e,if_pos NR,decide_eq_true NR,decide_eq_true (by rw[E];simp[fj])];rfl
    ·rw[if_neg e,if_neg NR,decide_eq_true NR];rfl
  exact this w.Levels 0 fun q L u=>by rw[ho];exact u
 have gen:∀ (cs:List aG) (ws:List aP),cs.length=ws.length→(∀ (i:Nat) (c:aG) (w:aP),cs[i]?=some c→ws[i]?=some w→vk c w=true)→nj vk cs ws=true:=by
  intro cs
  induction cs with
  | nil=>
   intro ws f _
   cases ws with
   | nil=>rfl
   | cons=>simp at f
  | cons c cs p=>
   intro ws f h
   cases ws with
   | nil=>simp at f
   | cons w ws=>
    unfold nj
    rw[h 0 c w rfl rfl,p ws (by simpa using f) fun i H w' m b=>h (i+1) H w' (by simpa using m) (by simpa using b)]
    rfl
 exact gen _ _ (by rw[g,a.lr]) key
theorem yJ {nx:Int} {l:List ag} (h:kQ nx l):(l.map (·.Id)).Nodup:=by
 unfold List.Nodup
 rw[List.pairwise_map]
 exact h.2.2.2.imp fun {a b} q e=>by have:=q.1;omega
theorem uC {nx:Int} {l:List ag} (h:kQ nx l):p9 l:=h.2.2.2.imp fun q=>q.1
theorem yP {s:ac} (h:kQ s.Next s.Items) (d:s.Next≤40):gl s=true:=by
 obtain⟨a,e,b,c⟩:=h
 unfold gl
 rw[decide_eq_true a,decide_eq_true (show s.Next≤1000000 by omega),decide_eq_true (show s.Items.length≤40 by omega),BC s.Items [] b (by simpa using c)];rfl
theorem xF {N:Nat} (m:1099000000000≤N) (l:List ag) (nx:Int) (f:aI) (i:qF f) (h:kQ nx l) (s:nx≤100) (t:sS l f=0) (u:l.length < 40):gz N ⟨l,nx⟩ f=some (nx,⟨l++[⟨nx,f⟩],nx+1⟩)∧kQ (nx+1) (l++[⟨nx,f⟩]):=by
 obtain⟨h1,v,d,n⟩:=h
 have o:=fun x c=>(d x c).2.2.2.1
 unfold gz
 rw[Dk m ⟨l,nx⟩ f (by show l.length≤_;omega) (fun x c=>by have:=o x c;omega)]
 simp only[fz]
 have hp : ¬ 0 < sS l f:=by omega
 simp only[hp,decide_false,fI,if_false]
 have p:∀ x∈l,x.F≠f:=by
  intro x c e
  apply hp
  unfold sS
  cases g:l.find? (fun x=>decide (x.F=f)) with
  | none=>
   rw[NY] at g
   have:=g x c
   simp[e] at this
  | some y=>
   have:=(d y (w2 g)).1
   simp only;omega
 have q : ¬ (40:Int)≤(l.length:Int):=by omega
 have hm : ¬ (1000000:Int)≤nx:=by omega
 simp only[q,hm,decide_false,fI,if_false,fz]
 have r:iH N f=some f:=by
  unfold iH
  rw[ft (show f.Fields.length≤4294967296 by have:=i.2.1;omega)];rfl
 simp only[r,fz,bO (show l.length+[(⟨nx,f⟩:ag)].length≤4294967296 by simp;omega)]
 rw[wr (show -9223372036854775808≤nx+1 by omega) NR,wr (show -9223372036854775808≤nx+1 - 1 by omega) NR,show nx+1 - 1=nx by omega]
 refine⟨rfl,NR,by simp;omega,?_,?_⟩
 ·refine nJ (fun x c=>?_) ⟨NR,by simp only;omega,i⟩
  have:=d x c
  exact⟨this.1,NR,this.2.2⟩
 ·refine l0.2 ⟨n,NS,fun a j b k=>?_⟩
  simp at k;subst k
  exact⟨(d a j).2.1,p a j⟩
structure Mc (b:List Int) (B:Int) (d:bv) (m:aN) (s:ac) (c:ab):Prop where
 g:GC b c
 def_:C7 d
 mem:∃ j:Nat,(j:Int)≤B∧n8 d (bS d) j m
 nx:s.Next≤B+1
 it:kQ s.Next s.Items
 has:sW d (bS d) s.Items m
theorem Lk {N:Nat} (a:1099000000000≤N) {b:List Int} (r:b.length≤1048576) {c:ab} (g:GC b c):∃ d m s p,nU N c=some (d,bS d,m,s,p)∧Mc b 9 d m s p:=by
 unfold nU
 obtain⟨d,c1,V,g1,A⟩:=MB a r g
 have B:=BL A
 have Q:=BY (Cr A)
 have C:=mT B
 obtain⟨⟨W,z2⟩,z3,z4⟩:=tc C
 have D:=(ri C).2.1
 have X:=yz D
 have Y:sW d (bS d) [] (l5 (bS d)):=Kc
 obtain⟨v,c2,Z,g2,hv⟩:=kM (N:=N) r (g1.at (c:=c) g.1) 10 NR
 simp only[V,fz,Ms a d C,Ic a (bS d) W z3 (fun c hc=>(z4 c hc).1),Z]
 have lp:∀ (n:Nat) (m:aN) (l:List ag) (k x h nx:Int) (j:Nat),0≤k→k < n→(j:Int)+k≤9→nx+k≤10→n8 d (bS d) j m→sW d (bS d) l m→kQ nx l→GC b ⟨c.b,x,h⟩ →
   ∃ R s p,fR N c (d,c1) (bS d) n m.Alphas m.Rules l k x h nx=some (d,bS d,R,s,p)∧Mc b 9 d R s p:=by
  intro n
  induction n with
  | zero=>intro m l k x h nx j h0 h1;omega
  | succ n E=>
   intro m l k x h nx j h0 h1 h2 h3 hm u o F
   simp only[fR]
   by_cases hk:0 < k
   ·have G:decide (0 < k)=true:=decide_eq_true hk
    have hlen:=o.2.1
    have S:=wF o
    obtain⟨q,e,e3,ge,-⟩:=rM (N:=N) r F 4
    have z:=ge.at (c:=⟨c.b,x,h⟩) F.1
    simp only[G,if_true,e3,fz]
    by_cases T:q=true∧0 < l.length
    ·have H:(if q=true then some (decide (0 < (l.length:Int))) else some false)=some true:=by
      rw[T.1,decide_eq_true (show (0:Int) < (l.length:Int) by omega)];rfl
     obtain⟨w,e4,I,K,hw⟩:=kM (N:=N) r z (l.length:Int) NR
     obtain⟨i,rfl⟩:∃ i:Nat,w=(i:Int):=⟨w.toNat,NR⟩
     obtain⟨q',L⟩:=He a ⟨l,nx⟩ l[i].Id (show l.length≤1048576 by omega)
     have ok:=FT (s:=⟨l,nx⟩) (id:=l[i].Id) B Q (show l.length≤40 by omega) (fun y t=>by have:=S y t;omega) NR hm
     have M:=J7 a d m ⟨l,nx⟩ l[i].Id ok
     simp only[H,fz,if_true,I,ah (show i < l.length by omega),show (⟨m.Alphas,m.Rules⟩:aN)=m from rfl,M,L,wrm hk (show k≤4611686018427387904 by omega)]
     have a7:=py (fun x:ag=>!decide (x.Id=l[i].Id)) l
     exact E (wN d m ⟨l,nx⟩ l[i].Id) (l.filter fun x=>!decide (x.Id=l[i].Id)) (k - 1) _ _ nx j NR NR NR NR (FE hm) (JI (x:=l[i]) (show l.length≤1048576 by omega) (yJ o) (hG (show i < l.length by omega)) hm u) ⟨o.1,NR,fun y t=>o.2.2.1 y (nt.1 t).1,o.2.2.2.filter _⟩ (K.at (c:=⟨c.b,e.i,e.h⟩) z.1)
    ·have H:(if q=true then some (decide (0 < (l.length:Int))) else some false)=some false:=by
      cases q with
      | false=>rfl
      | true=>
       have : ¬ 0 < l.length:=fun h=>T ⟨rfl,h⟩
       rw[decide_eq_false (show ¬ (0:Int) < (l.length:Int) by omega)];rfl
     obtain⟨f,e4,I,K,hf⟩:=CI a r z
     have U:=K.at (c:=⟨c.b,e.i,e.h⟩) z.1
     simp only[H,fz,fI,if_false,I,Dk a ⟨l,nx⟩ f (by show l.length≤_;omega) (fun x hx=>by have:=S x hx;omega)]
     by_cases O:sS l f=0
     ·obtain⟨L,P⟩:=xF a l nx f hf o NR O NR
      have a1:=wF P
      have a8:(l++[(⟨nx,f⟩:ag)]).length=l.length+1:=by simp
      have ok:=uU (s:=⟨l++[⟨nx,f⟩],nx+1⟩) (id:=nx) B Q (show (l++[(⟨nx,f⟩:ag)]).length≤40 by omega) (fun y t=>by have:=a1 y t;omega) NR hm
      have M:=LZ a d (bS d) m ⟨l++[⟨nx,f⟩],nx+1⟩ nx ok
      have a6:=yJ P
      simp only[O,decide_true,if_true,L,fz,show (⟨m.Alphas,m.Rules⟩:aN)=m from rfl,M,wrm hk (show k≤4611686018427387904 by omega)]
      exact E (yL d (bS d) m ⟨l++[⟨nx,f⟩],nx+1⟩ nx) (l++[⟨nx,f⟩]) (k - 1) _ _ (nx+1) (j+1) NR NR NR NR (t7 NR (show (l++[(⟨nx,f⟩:ag)]).length≤1048576 by omega) D.len hm) (Df (x:=⟨nx,f⟩) NR a6 D hm u) P U
     ·simp only[O,decide_false,fI,if_false,wrm hk (show k≤4611686018427387904 by omega)]
      exact E m l (k - 1) _ _ nx j NR NR NR NR hm u o U
   ·have G:decide (0 < k)=false:=decide_eq_false hk
    simp only[G,fI,if_false]
    exact⟨m,⟨l,nx⟩,_,rfl,F,A,⟨j,NR,hm⟩,by show nx≤_;omega,o,u⟩
 obtain⟨m,s,p,e9,h9⟩:=lp N (l5 (bS d)) [] v c2.i c2.h 1 0 hv.1 NR NR NR X Y ⟨NR,NS,NS,NS⟩ (g2.at (c:=⟨c.b,c1.i,c1.h⟩) g.1)
 exact⟨d,m,s,p,e9,h9⟩
theorem DV {N:Nat} (f:aI) (h:f.Fields.length≤4294967296):gA N f=some f:=by
 unfold gA ez
 rw[ft h];rfl
theorem Iq {N:Nat} (b:1099000000000≤N) (s:ac) (c:s.Items.length≤1048576) (d:∀ x∈s.Items,x.F.Fields.length≤1048576):lm N s=some s:=by
 unfold lm
 refine (lp' b s.Items NR (fun n (u:List ag) i=>fg N s n u i) (fun t u=>some ⟨u++t,s.Next⟩) (fun u t=>u.length+t.length≤1048576) [] (by simpa using c) (fun n u i v t g1 g2 g3 g4 g5 g6 a e=>?_) (fun n u i g1 g2 a=>?_)).trans NS
 ·simp only[gh] at a
  simp only[fg,g5,if_true,g4,fz,DV v.F (by have:=d v g2;omega),bO (show u.length+[v].length≤4294967296 by simp;omega),show (⟨v.Id,v.F⟩:ag)=v from rfl,g6]
  rw[e _ (by simp;omega)]
  simp
 ·simp only[fg,g2,fI,if_false,j2]
theorem Hq {N:Nat} (b:1099000000000≤N) (s:ac) (f:aI) (k:s.Items.length≤1048576) (d:∀ x∈s.Items,x.F.Fields.length≤1048576):qI N s f=some (sS s.Items f):=by
 unfold qI
 refine lp0 b s.Items NR (jc N s f) (fun t=>some (sS t f)) (fun n i x t h1 a l e g h j=>?_) (fun n i h1 a=>?_)
 ·simp only[jc,g,if_true,e,fz,Ea b x.F f (by have:=d x a;omega),h,j,zP]
  by_cases c:x.F=f <;> simp[c]
 ·simp only[jc,a,fI,if_false];rfl
theorem Hm {N:Nat} (a:1099000000000≤N) (s:ac) (f:aI) (b:mA s) (d:qF f) (g:gl s=true) (i:s.Items.length < 40) (j:s.Next≤100) (k:1≤s.Next):pi N s f=some (if sS s.Items f=0 then (⟨s.Items++[⟨s.Next,f⟩],s.Next+1⟩,s.Next,true) else (s,sS s.Items f,true)):=by
 have e:∀ x∈s.Items,x.F.Fields.length≤1048576:=fun x h=>(b.2 x h).2.1
 unfold pi kH
 simp only[Iq a s b.1 e,xy a s b,g,fz,hA,fI,if_false,GQ a f (zN d),zK d,Hq a s f b.1 e]
 by_cases c:sS s.Items f=0
 ·have c1:decide ((40:Int)≤(s.Items.length:Int))=false:=decide_eq_false NR
  have c2:decide (s.Next=1000000)=false:=decide_eq_false NR
  have l:f.Fields.length≤5:=d.2.1
  rw[if_pos c]
  simp only[c,decide_true,hA,fI,if_false,c1,c2,fz,DV f (show f.Fields.length≤4294967296 by omega),bO (show s.Items.length+[(⟨s.Next,f⟩:ag)].length≤4294967296 by simp;omega)]
  rw[wr (show -9223372036854775808≤s.Next+1 by omega) NR,wr (show -9223372036854775808≤s.Next+1 - 1 by omega) NR,show s.Next+1 - 1=s.Next by omega]
 ·rw[if_neg c]
  simp only[c,decide_false,hI,if_true,fz]
theorem Nr {N:Nat} (x y:List Int) (f:x.length=y.length) (hm:x.length≤1048576):∀ n i:Nat,i≤x.length→x.length - i < n→∃ c,bR N x y n i=some c∧decide (c < 0)=jb (x.drop i) (y.drop i):=by
 intro n
 induction n with
 | zero=>intro i _ h;omega
 | succ n e=>
  intro i g j
  simp only[bR]
  by_cases b:i < x.length
  ·have d:i < y.length:=by omega
   have c1:decide ((i:Int) < (x.length:Int))=true:=decide_eq_true NR
   have c2:decide ((y.length:Int)≤(i:Int))=false:=decide_eq_false NR
   rw[gI b,gI d,jb]
   simp only[c1,c2,if_true,fI,if_false,ah b,ah d,fz,B1,wr1 i NR]
   by_cases he:x[i]=y[i]
   ·have a:cmp y[i] y[i]=0:=by unfold cmp;simp
    simp only[a,he,decide_true,hA,fI,if_false,if_true]
    exact e (i+1) NR NR
   ·have a:cmp x[i] y[i]≠0:=by unfold cmp;split <;> (try split) <;> omega
    simp only[a,he,decide_false,hI,if_true,if_false]
    refine⟨_,rfl,?_⟩
    rw[decide_eq_decide]
    unfold cmp;split <;> (try split) <;> omega
  ·have c1:decide ((i:Int) < (x.length:Int))=false:=decide_eq_false NR
   have c2:decide ((x.length:Int) < (y.length:Int))=false:=decide_eq_false NR
   simp only[c1,c2,fI,if_false]
   rw[hz NR,hz NR]
   exact⟨0,rfl,rfl⟩
theorem My {N:Nat} (d:1048578≤N) (x y:List Int) (f:x.length≤1048576):co N x y=some (decide (x=y)):=by
 unfold co
 by_cases c:x.length=y.length
 ·rw[if_neg (by simp;omega)]
  refine (qn (cX N x y) x y c NR (fun a b=>some (decide (a=b))) (fun a _ b _=>rfl) (fun k i=>rfl) N 0 NR NR).trans ?_
  simp
 ·rw[if_pos (by simp;omega)]
  have : ¬ x=y:=fun e=>c (by rw[e])
  simp[this]
def rB (x y:a7):Bool:=decide (x.Rule=y.Rule) && decide (x.Ids=y.Ids)
theorem HR {N:Nat} (a:1048578≤N) (x y:a7) (h:x.Ids.length≤1048576):jK N x y=some (rB x y):=by
 unfold jK rB
 simp only[My a _ _ h,fz,sf]
theorem BA (x y:a7):(mh x y || mh y x) = !rB x y:=by
 unfold mh rB
 by_cases b:x.Rule=y.Rule
 ·by_cases a:x.Ids.length=y.Ids.length
  ·simp only[b,a,if_true,decide_true,hV];exact EK _ _ a
  ·have c : ¬ y.Ids.length=x.Ids.length:=fun e=>a e.symm
   have d : ¬ x.Ids=y.Ids:=fun e=>a (by rw[e])
   simp only[b,a,c,d,if_true,if_false,decide_true,decide_false,hV,hI]
   rw[← Bool.decide_or,decide_eq_true_eq];omega
 ·have f : ¬ y.Rule=x.Rule:=fun e=>b e.symm
  simp only[b,f,if_false,decide_false,q0,hI]
  rw[← Bool.decide_or,decide_eq_true_eq];omega
variable {α:Type}
structure uv (lt:α→α→Bool):Prop where
 asymm:∀ a b,lt a b=true→lt b a=false
 trans:∀ a b c,lt b a=false→lt c b=false→lt c a=false
abbrev Srt (lt:α→α→Bool) (l:List α):Prop:=l.Pairwise fun a b=>lt b a=false
variable {lt:α→α→Bool}
theorem uv.irr (h:uv lt) (a:α):lt a a=false:=by
 cases e:lt a a with
 | false=>rfl
 | true=>rw[h.asymm a a e] at e;cases e
theorem Srt.last (h:uv lt) {l:List α} (f:Srt lt l) {y z:α} (a:l[l.length - 1]?=some z) (b:lt y z=false):∀ x∈l,lt y x=false:=by
 intro x g
 obtain⟨i,d,rfl⟩:=x0 g
 by_cases c:i=l.length - 1
 ·subst c
  rw[gj d] at a
  cases a
  exact b
 ·have e:l.length - 1 < l.length:=by omega
  rw[gj e] at a
  cases a
  exact h.trans _ _ _ (Od.1 f i (l.length - 1) d e NR) b
theorem Srt.first (h:uv lt) {l:List α} (f:Srt lt l) {y z:α} (a:l[0]?=some z) (b:lt z y=false):∀ x∈l,lt x y=false:=by
 intro x g
 obtain⟨i,d,rfl⟩:=x0 g
 by_cases c:i=0
 ·subst c
  rw[gj d] at a
  cases a
  exact b
 ·have e:0 < l.length:=by omega
  rw[gj e] at a
  cases a
  exact h.trans _ _ _ b (Od.1 f 0 i e d NR)
theorem GA (h:uv lt) {X Y:List α} (q:Srt lt X) (r:Srt lt Y) {s t:Nat} (I:s≤X.length) (K:t≤Y.length)
  (h1:∀ x y,1≤s→X[s - 1]?=some x→Y[t]?=some y→lt y x=false) (u:∀ x y,1≤t→Y[t - 1]?=some y→X[s]?=some x→lt x y=false)
  {Z1 Z2:List α} (s1:Srt lt Z1) (o:Z1.Perm (X.take s++Y.take t)) (s2:Srt lt Z2) (p:Z2.Perm (X.drop s++Y.drop t)) :
  Srt lt (Z1++Z2)∧(Z1++Z2).Perm (X++Y):=by
 have v:Srt lt (X.take s++X.drop s):=by rw[l3];exact q
 have w:Srt lt (Y.take t++Y.drop t):=by rw[l3];exact r
 obtain⟨z,A,B⟩:=l0.1 v
 obtain⟨C,D,E⟩:=l0.1 w
 have F:∀ x∈X.take s,∀ y∈Y.drop t,lt y x=false:=by
  intro x f y g
  have ls:(X.take s).length=s:=by simp;omega
  have i:1≤s:=by
   have:=vx f
   omega
  have j:t < Y.length:=by
   have:=vx g
   simp at this;omega
  have k:(X.take s)[(X.take s).length - 1]?=some (X[s - 1]'NR):=by
   rw[ls,hQ,if_pos NR,gj]
  have l:(Y.drop t)[0]?=some (Y[t]'j):=by
   rw[j8,k0,gj]
  have m:=h1 _ _ i (gj NR) (gj j)
  have n:=Srt.first h D l m y g
  exact Srt.last h z k n x f
 have a2:∀ y∈Y.take t,∀ x∈X.drop s,lt x y=false:=by
  intro y g x f
  have G:(Y.take t).length=t:=by simp;omega
  have j:1≤t:=by
   have:=vx g
   omega
  have i:s < X.length:=by
   have:=vx f
   simp at this;omega
  have k:(Y.take t)[(Y.take t).length - 1]?=some (Y[t - 1]'NR):=by
   rw[G,hQ,if_pos NR,gj]
  have l:(X.drop s)[0]?=some (X[s]'i):=by
   rw[j8,k0,gj]
  have m:=u _ _ j (gj NR) (gj i)
  have n:=Srt.first h A l m x f
  exact Srt.last h C k n y g
 refine⟨l0.2 ⟨s1,s2,fun a c b d=>?_⟩,?_⟩
 ·rcases gb.1 (o.mem_iff.1 c) with c | c <;> rcases gb.1 (p.mem_iff.1 d) with d | d
  ·exact B a c b d
  ·exact F a c b d
  ·exact a2 a c b d
  ·exact E a c b d
 ·have e:(X++Y).Perm ((X.take s++Y.take t)++(X.drop s++Y.drop t)):=by
   have H:X++Y=(X.take s++X.drop s)++(Y.take t++Y.drop t):=by rw[l3,l3]
   rw[H]
   simp only[gf]
   refine List.Perm.append_left _ ?_
   rw[← gf,← gf]
   exact List.Perm.append_right _ q6
  exact (o.append p).trans e.symm
theorem HY (h:uv lt) {x:α} {Y:List α} (j:Srt lt Y) {k:Nat} (hk:k≤Y.length) (h1:∀ y,1≤k→Y[k - 1]?=some y→lt x y=false) (l:∀ y,Y[k]?=some y→lt y x=false) :
  Srt lt (Y.take k++x :: Y.drop k)∧(Y.take k++x :: Y.drop k).Perm (x :: Y):=by
 have m:Srt lt (Y.take k++Y.drop k):=by rw[l3];exact j
 obtain⟨f,g,n⟩:=l0.1 m
 have lk:(Y.take k).length=k:=by simp;omega
 refine⟨l0.2 ⟨f,p1.2 ⟨fun y i=>?_,g⟩,fun a c b d=>?_⟩,?_⟩
 ·have e:k < Y.length:=by
   have:=vx i
   simp at this;omega
  exact Srt.first h g (z:=Y[k]) (by rw[j8,k0,gj]) (l _ (gj e)) y i
 ·rcases hE.1 d with rfl | d
  ·have e:1≤k:=by
    have:=vx c
    omega
   exact Srt.last h f (z:=Y[k - 1]'NR) (by rw[lk,hQ,if_pos NR,gj]) (h1 _ e (gj NR)) a c
  ·exact n a c b d
 ·have:(Y.take k++x :: Y.drop k).Perm (x :: (Y.take k++Y.drop k)):=ry
  rwa [l3] at this
def swp (l:List α) (i j:Nat):List α:=match l[i]?,l[j]? with
 | some x,some y=>(l.set i y).set j x
 | _,_=>l
theorem HJ {P Q R:List α} {x y:α}:swp (P++x :: (Q++y :: R)) P.length (P.length+1+Q.length)=P++y :: (Q++x :: R):=by
 unfold swp
 have a:(P++x :: (Q++y :: R))[P.length]?=some x:=by simp
 have b:(P++x :: (Q++y :: R))[P.length+1+Q.length]?=some y:=by
  rw[mx NR,show P.length+1+Q.length - P.length=Q.length+1 by omega,NX]
  simp
 rw[a,b]
 simp only
 rw[qu _ _ NR,rs,List.set_cons_zero,qu _ _ NR,show P.length+1+Q.length - P.length=Q.length+1 by omega,List.set_cons_succ,qu _ _ NR,rs,List.set_cons_zero]
def rI (l:List α) (a b:Nat):Nat→Nat→List α
 | _,0=>l
 | k,n+1=>rI (swp l (a+k) (b+k)) a b (k+1) n
theorem E9:∀ (U V a b:List α) {P M Q:List α},U.length=V.length→a.length=b.length →
  rI (P++b++U++M++a++V++Q) P.length (P.length+b.length+U.length+M.length) a.length U.length=P++b++V++M++a++U++Q
 | [],[],a,b,P,M,Q,_,_=>by simp[rI]
 | u :: U,v :: V,a,b,P,M,Q,h,d=>by
  simp only[gh] at h
  have e:swp (P++b++(u :: U)++M++a++(v :: V)++Q) (P.length+a.length) (P.length+b.length+(U.length+1)+M.length+a.length)=P++b++(v :: U)++M++a++(u :: V)++Q:=by
   have:=HJ (P:=P++b) (Q:=U++M++a) (R:=V++Q) (x:=u) (y:=v)
   simp only[gf,hK,gi] at this ⊢
   rw[d]
   rw[← this]
   congr 1
   omega
  show rI (swp _ (P.length+a.length) _) _ _ (a.length+1) U.length=_
  simp only[gh]
  rw[e]
  have c:=E9 U V (a++[u]) (b++[v]) (P:=P) (M:=M) (Q:=Q) NR (by simp;omega)
  simp only[gf,hK,ha,gi,gh,gk] at c ⊢
  rw[show P.length+b.length+(U.length+1)+M.length=P.length+(b.length+(0+1))+U.length+M.length by omega,show a.length+1=a.length+(0+1) by omega]
  exact c
 | [],v :: V,_,_,_,_,_,h,_=>by simp at h
 | u :: U,[],_,_,_,_,_,h,_=>by simp at h
theorem Bb {U V P M Q:List α} (h:U.length=V.length):rI (P++U++M++V++Q) P.length (P.length+U.length+M.length) 0 U.length=P++V++M++U++Q:=by
 have:=E9 U V [] [] (P:=P) (M:=M) (Q:=Q) h rfl
 simpa using this
def rot (l:List α) (m:Nat):Nat→Nat→Nat→List α
 | 0,_,_=>l
 | f+1,i,j=>if i=j then rI l (m - i) m 0 i else if j < i then rot (rI l (m - i) m 0 j) m f (i - j) j else rot (rI l (m - i) (m+j - i) 0 i) m f i (j - i)
theorem DA:∀ (f:Nat) (U V P Q:List α),0 < U.length→0 < V.length→U.length+V.length≤f→rot (P++U++V++Q) (P.length+U.length) f U.length V.length=P++V++U++Q
 | 0,U,V,P,Q,h1,l,j=>by omega
 | f+1,U,V,P,Q,h1,l,j=>by
  unfold rot
  by_cases c:U.length=V.length
  ·rw[if_pos c]
   have:=Bb (P:=P) (M:=[]) (Q:=Q) c
   simp only[j2,gk,k0] at this
   rw[w3]
   exact this
  ·rw[if_neg c]
   by_cases c2:V.length < U.length
   ·rw[if_pos c2,w3]
    -- the first of U changes with V
    obtain⟨g,a,rfl,h⟩:∃ g a,U=g++a∧g.length=V.length:=⟨U.take V.length,U.drop V.length,NS,by simp;omega⟩
    simp only[gi] at j c2 ⊢
    have e:=Bb (P:=P) (M:=a) (Q:=Q) h
    rw[h] at e
    have k:rI (P++(g++a)++V++Q) P.length (P.length+(g.length+a.length)) 0 V.length=P++V++a++g++Q:=by
     rw[← e,h]
     simp only[gf,G0]
    rw[k]
    have i:=DA f a g (P++V) Q NR NR NR
    rw[show g.length+a.length - V.length=a.length by omega]
    rw[gi] at i
    rw[show P.length+(g.length+a.length)=P.length+V.length+a.length by omega,← h]
    rw[← h] at i
    rw[i]
    simp only[gf]
   ·rw[if_neg c2,w3]
    obtain⟨b,d,rfl,h⟩:∃ b d,V=b++d∧d.length=U.length:=⟨V.take (V.length - U.length),V.drop (V.length - U.length),NS,by simp;omega⟩
    simp only[gi] at j c c2 ⊢
    have e:=Bb (U:=U) (V:=d) (P:=P) (M:=b) (Q:=Q) h.symm
    have k:rI (P++U++(b++d)++Q) P.length (P.length+U.length+(b.length+d.length) - U.length) 0 U.length=P++d++b++U++Q:=by
     rw[← e,show P.length+U.length+(b.length+d.length) - U.length=P.length+U.length+b.length by omega]
     simp only[gf]
    rw[k]
    have i:=DA f d b P (U++Q) NR NR NR
    rw[show b.length+d.length - U.length=b.length by omega,← h]
    simp only[gf] at i ⊢
    exact i
theorem HB {N:Nat} (g:1048578≤N) (x y:a7) (h:x.Ids.length≤1048576):∃ v,ep N x y=some v∧mh x y=decide (v < 0):=by
 unfold ep mh d8
 simp only[B1,fz,Kq g]
 by_cases d:x.Rule=y.Rule
 ·have a:cmp x.Rule y.Rule=0:=by unfold cmp;rw[d];simp
  rw[if_pos d,if_pos a]
  by_cases b:x.Ids.length=y.Ids.length
  ·have e:cmp (x.Ids.length:Int) (y.Ids.length:Int)=0:=by unfold cmp;rw[b];simp
   obtain⟨c,h1,f⟩:=Nr (N:=N) x.Ids y.Ids b h N 0 NR NR
   simp only[hR] at f
   rw[show ((0:Nat):Int)=0 from rfl] at h1
   rw[if_pos b,e]
   simp only[decide_true,if_true,h1,fz]
   exact⟨c,rfl,f.symm⟩
  ·have e:cmp (x.Ids.length:Int) (y.Ids.length:Int)≠0:=by unfold cmp;split <;> (try split) <;> omega
   rw[if_neg b]
   simp only[e,decide_false,fI,if_false]
   refine⟨_,rfl,?_⟩
   rw[decide_eq_decide]
   unfold cmp;split <;> (try split) <;> omega
 ·have a:cmp x.Rule y.Rule≠0:=by unfold cmp;split <;> (try split) <;> omega
  rw[if_neg d,if_neg a]
  simp only[a,decide_false,fI,if_false]
  refine⟨_,rfl,?_⟩
  rw[decide_eq_decide]
  unfold cmp;split <;> (try split) <;> omega
theorem AW {x y z:a7} (h:rB x y=true):mh x z=mh y z∧mh z x=mh z y:=by
 unfold rB at h
 simp only[gm,decide_eq_true_eq] at h
 unfold mh
 rw[h.1,h.2]
 exact⟨rfl,rfl⟩
theorem vO:uv mh:=by
 refine⟨fun a b h=>?_,fun a b c h1 g=>?_⟩
 ·have:=Gd a b
  rw[h,hV] at this;exact this
 ·cases e:mh c a with
  | false=>rfl
  | true=>
   have d:=BA c b
   rw[g,Bool.false_or] at d
   cases f:rB c b with
   | true=>
    have:=(AW f (z:=a)).1
    rw[e] at this;rw[← this] at h1;cases h1
   | false=>
    rw[f] at d
    have:=De d e
    rw[h1] at this;cases this
variable {α:Type} {lt:α→α→Bool}
def bsr (ask:Nat→Bool):Nat→Nat→Nat→Nat
 | 0,i,_=>i
 | f+1,i,j=>if i < j then (if ask ((i+j) / 2)=true then bsr ask f ((i+j) / 2+1) j else bsr ask f i ((i+j) / 2)) else i
theorem xX (ask:Nat→Bool) (lo a:Nat):∀ (f i j:Nat),lo≤i→i≤j→j≤a→j - i < f→(i=lo∨ask (i - 1)=true)→(j=a∨ask j=false) →
  lo≤bsr ask f i j∧bsr ask f i j≤a∧(bsr ask f i j=lo∨ask (bsr ask f i j - 1)=true)∧(bsr ask f i j=a∨ask (bsr ask f i j)=false)
 | 0,i,j,_,_,_,h,_,_=>by omega
 | f+1,i,j,h1,k,b,l,d,g=>by
  unfold bsr
  by_cases c:i < j
  ·rw[if_pos c]
   cases e:ask ((i+j) / 2) with
   | true=>
    rw[if_pos rfl]
    exact xX ask lo a f _ j NR NR b NR (.inr (by rw[w3];exact e)) g
   | false=>
    rw[if_neg NS]
    exact xX ask lo a f i _ h1 NR NR NR d (.inr e)
  ·rw[if_neg c]
   have:i=j:=by omega
   subst this
   exact⟨h1,b,d,g⟩
def tF (lt:α→α→Bool) (l:List α) (i j:Nat):Bool:=match l[i]?,l[j]? with
 | some x,some y=>lt x y
 | _,_=>false
theorem lW {l:List α} {i j:Nat} {x y:α} (h1:l[i]?=some x) (a:l[j]?=some y):tF lt l i j=lt x y:=by
 unfold tF;rw[h1,a]
def shR (l:List α):Nat→Nat→List α
 | _,0=>l
 | k,n+1=>shR (swp l k (k+1)) (k+1) n
def shL (l:List α):Nat→Nat→List α
 | _,0=>l
 | k,n+1=>shL (swp l (k - 1) k) (k - 1) n
theorem B6 {P Q:List α} {x y:α}:swp (P++x :: y :: Q) P.length (P.length+1)=P++y :: x :: Q:=by
 have:=HJ (P:=P) (Q:=[]) (R:=Q) (x:=x) (y:=y)
 simpa using this
theorem I9:∀ (U P Q:List α) (x:α),shR (P++x :: (U++Q)) P.length U.length=P++U++x :: Q
 | [],P,Q,x=>by simp[shR]
 | u :: U,P,Q,x=>by
  show shR (swp (P++x :: u :: (U++Q)) P.length (P.length+1)) (P.length+1) U.length=_
  rw[B6]
  have:=I9 U (P++[u]) Q x
  simp only[gf,hK,ha,gi,gh,gk] at this ⊢
  exact this
theorem GV:∀ (n:Nat) (U P Q:List α) (x:α),U.length=n→shL (P++U++x :: Q) (P.length+n) n=P++x :: (U++Q)
 | 0,U,P,Q,x,h=>by
  have:U=[]:=qa.1 h
  subst this;simp[shL]
 | n+1,U,P,Q,x,h=>by
  have a:U≠[]:=by rintro rfl;simp at h
  obtain⟨V,u,rfl⟩:∃ V u,U=V++[u]:=⟨U.dropLast,U.getLast a,(Oe a).symm⟩
  simp at h
  show shL (swp (P++(V++[u])++x :: Q) (P.length+(n+1) - 1) (P.length+(n+1))) (P.length+(n+1) - 1) n=_
  have e:=B6 (P:=P++V) (Q:=Q) (x:=u) (y:=x)
  simp only[gf,hK,ha,gi,h] at e ⊢
  rw[show P.length+(n+1) - 1=P.length+n by omega,show P.length+(n+1)=P.length+n+1 by omega,e]
  have b:=GV n V P (u :: Q) x h
  simp only[gf,hK] at b
  exact b
def ni (lt:α→α→Bool):Nat→List α→Nat→Nat→Nat→List α
 | 0,l,_,_,_=>l
 | f+1,l,a,m,b=>
  if m - a=1 then
   let i:=bsr (fun h=>tF lt l h a) (b - m+1) m b
   shR l a (i - 1 - a)
  else if b - m=1 then
   let i:=bsr (fun h=>!tF lt l m h) (m - a+1) a m
   shL l m (m - i)
  else
   let mid:=(a+b) / 2
   let n:=mid+m
   let s0:=if mid < m then n - b else a
   let r0:=if mid < m then mid else m
   let s:=bsr (fun c=>!tF lt l (n - 1 - c) c) (r0 - s0+1) s0 r0
   let e:=n - s
   let l1:=if s < m∧m < e then rot l m (e - s) (m - s) (e - m) else l
   let l2:=if a < s∧s < mid then ni lt f l1 a s mid else l1
   if mid < e∧e < b then ni lt f l2 mid e b else l2
theorem IG {P X R:List α} {c:Nat} (h:c < X.length):(P++(X++R))[P.length+c]?=X[c]?:=by
 rw[mx NR,O0,oj h]
theorem J0 {P X Y Q:List α} {c:Nat} (h:c < Y.length):(P++(X++(Y++Q)))[P.length+X.length+c]?=Y[c]?:=by
 rw[mx NR,mx NR,show P.length+X.length+c - P.length - X.length=c by omega,oj h]
theorem xr (h:uv lt):∀ (f:Nat) (X Y P Q:List α),Srt lt X→Srt lt Y→0 < X.length→0 < Y.length→X.length+Y.length≤f →
  ∃ Z,ni lt f (P++(X++(Y++Q))) P.length (P.length+X.length) (P.length+X.length+Y.length)=P++(Z++Q)∧Srt lt Z∧Z.Perm (X++Y)
 | 0,X,Y,P,Q,_,_,h1,S,T=>by omega
 | f+1,X,Y,P,Q,u,v,h1,S,T=>by
  unfold ni
  by_cases c1:P.length+X.length - P.length=1
  ·rw[if_pos c1]
   have j:X.length=1:=by omega
   obtain⟨x,rfl⟩:∃ x,X=[x]:=Of.1 j
   simp only[gh,gk]
   obtain⟨n,o,a,b⟩:=xX (fun h=>tF lt (P++([x]++(Y++Q))) h P.length) (P.length+(0+1)) (P.length+(0+1)+Y.length) (P.length+(0+1)+Y.length - (P.length+(0+1))+1) (P.length+(0+1)) (P.length+(0+1)+Y.length)
    (hn _) NR (hn _) NR (.inl rfl) (.inl rfl)
   generalize e:bsr (fun h=>tF lt (P++([x]++(Y++Q))) h P.length) (P.length+(0+1)+Y.length - (P.length+(0+1))+1) (P.length+(0+1)) (P.length+(0+1)+Y.length)=i at n o a b
   obtain⟨k,rfl⟩:∃ k,i=P.length+1+k:=⟨i - (P.length+1),NR⟩
   have hk:k≤Y.length:=by omega
   have p:(P++([x]++(Y++Q)))[P.length]?=some x:=by simp
   have F:∀ c,c < Y.length→(P++([x]++(Y++Q)))[P.length+1+c]?=Y[c]?:=fun c U=>J0 (X:=[x]) U
   obtain⟨q,r⟩:=HY h (x:=x) v hk (fun y V l=>by
    rcases a with a | a
    ·omega
    ·have g:(P++([x]++(Y++Q)))[P.length+1+k - 1]?=some y:=by
      rw[show P.length+1+k - 1=P.length+1+(k - 1) by omega,F _ NR];exact l
     rw[lW g p] at a
     exact h.asymm _ _ a) (fun y l=>by
    have w:=(gx.1 l).1
    rcases b with b | b
    ·omega
    ·rw[lW (by rw[F _ w];exact l) p] at b
     exact b)
   refine⟨_,?_,q,by simpa using r⟩
   have:=I9 (Y.take k) P (Y.drop k++Q) x
   rw[← gf (Y.take k),l3] at this
   have z:(Y.take k).length=k:=by simp;omega
   rw[z] at this
   rw[show P.length+1+k - 1 - P.length=k by omega]
   simp only[hK,ha,gf] at this ⊢
   exact this
  rw[if_neg c1]
  by_cases c2:P.length+X.length+Y.length - (P.length+X.length)=1
  ·rw[if_pos c2]
   obtain⟨y,rfl⟩:∃ y,Y=[y]:=Of.1 NR
   obtain⟨n,o,a,b⟩:=xX (fun h=>!tF lt (P++(X++([y]++Q))) (P.length+X.length) h) P.length (P.length+X.length) (P.length+X.length - P.length+1) P.length (P.length+X.length)
    (hn _) NR (hn _) NR (.inl rfl) (.inl rfl)
   simp only
   generalize e:bsr (fun h=>!tF lt (P++(X++([y]++Q))) (P.length+X.length) h) (P.length+X.length - P.length+1) P.length (P.length+X.length)=i at n o a b
   obtain⟨k,rfl⟩:∃ k,i=P.length+k:=⟨i - P.length,NR⟩
   have hk:k≤X.length:=by omega
   have p:(P++(X++([y]++Q)))[P.length+X.length]?=some y:=by
    have:=J0 (P:=P) (X:=X) (Y:=[y]) (Q:=Q) (c:=0) NS
    rw[k0] at this;exact this
   obtain⟨q,r⟩:=HY h (x:=y) u hk (fun x V j=>by
    rcases a with a | a
    ·omega
    ·have g:(P++(X++([y]++Q)))[P.length+k - 1]?=some x:=by
      rw[show P.length+k - 1=P.length+(k - 1) by omega,IG NR];exact j
     rw[lW p g] at a
     simpa using a) (fun x j=>by
    have w:=(gx.1 j).1
    rcases b with b | b
    ·omega
    ·rw[lW p (by rw[IG w];exact j)] at b
     exact h.asymm _ _ (by simpa using b))
   refine⟨_,?_,q,r.trans (q6 (l₁:=[y]) (l₂:=X))⟩
   have:=GV (X.length - k) (X.drop k) (P++X.take k) Q y NS
   have z:(X.take k).length=k:=by simp;omega
   simp only[gi,z] at this
   rw[show P.length+k+(X.length - k)=P.length+X.length by omega] at this
   rw[show P.length+X.length - (P.length+k)=X.length - k by omega]
   simp only[gf,hK,ha] at this ⊢
   rw[← gf (X.take k),l3] at this
   exact this
  rw[if_neg c2]
  have x2:2≤X.length:=by omega
  have y2:2≤Y.length:=by omega
  -- the middle, from P on
  obtain⟨d,hd⟩:∃ d,d=(X.length+Y.length) / 2:=⟨_,rfl⟩
  have W:(P.length+(P.length+X.length+Y.length)) / 2=P.length+d:=by omega
  simp only[W]
  have a1:(if P.length+d < P.length+X.length then P.length+d+(P.length+X.length) - (P.length+X.length+Y.length) else P.length)=P.length+(if d < X.length then d - Y.length else 0):=by
   by_cases c:d < X.length
   ·rw[if_pos NR,if_pos c];omega
   ·rw[if_neg NR,if_neg c];omega
  have a6:(if P.length+d < P.length+X.length then P.length+d else P.length+X.length)=P.length+(if d < X.length then d else X.length):=by
   by_cases c:d < X.length
   ·rw[if_pos NR,if_pos c]
   ·rw[if_neg NR,if_neg c]
  rw[a1,a6]
  obtain⟨lo,A⟩:∃ lo,lo=(if d < X.length then d - Y.length else 0):=⟨_,rfl⟩
  obtain⟨e,B⟩:∃ e,e=(if d < X.length then d else X.length):=⟨_,rfl⟩
  rw[← A,← B]
  have hb:lo≤e∧e≤X.length∧e≤d∧d≤lo+Y.length∧(lo=0∨lo+Y.length=d)∧(e=d∨e=X.length):=by
   by_cases c:d < X.length
   ·rw[if_pos c] at A B;omega
   ·rw[if_neg c] at A B;omega
  obtain⟨b1,b2,b3,b4,C,D⟩:=hb
  obtain⟨n,o,a,b⟩:=xX (fun c=>!tF lt (P++(X++(Y++Q))) (P.length+d+(P.length+X.length) - 1 - c) c) (P.length+lo) (P.length+e) (P.length+e - (P.length+lo)+1) (P.length+lo) (P.length+e)
   (hn _) NR (hn _) NR (.inl rfl) (.inl rfl)
  generalize ai:bsr (fun c=>!tF lt (P++(X++(Y++Q))) (P.length+d+(P.length+X.length) - 1 - c) c) (P.length+e - (P.length+lo)+1) (P.length+lo) (P.length+e)=i at n o a b
  obtain⟨s,rfl⟩:∃ s,i=P.length+s:=⟨i - P.length,NR⟩
  obtain⟨t,ht⟩:∃ t,t=d - s:=⟨_,rfl⟩
  have a7:s≤X.length∧t≤Y.length∧s+t=d:=by omega
  obtain⟨g1,g2,g3⟩:=a7
  have he:P.length+d+(P.length+X.length) - (P.length+s)=P.length+X.length+t:=by omega
  rw[he]
  -- the halves
  have H:=fun {Z1 Z2:List α}=>GA h u v g1 g2 (Z1:=Z1) (Z2:=Z2) (fun x y aj j l=>by
   have a8:=(gx.1 l).1
   rcases a with a | a
   ·rcases C with C | C <;> omega
   ·have g:(P++(X++(Y++Q)))[P.length+d+(P.length+X.length) - 1 - (P.length+s - 1)]?=some y:=by
     rw[show P.length+d+(P.length+X.length) - 1 - (P.length+s - 1)=P.length+X.length+t by omega,J0 a8];exact l
    have m:(P++(X++(Y++Q)))[P.length+s - 1]?=some x:=by
     rw[show P.length+s - 1=P.length+(s - 1) by omega,IG NR];exact j
    rw[lW g m] at a
    simpa using a) (fun x y ak l j=>by
   have aa:=(gx.1 j).1
   rcases b with b | b
   ·rcases D with D | D <;> omega
   ·have g:(P++(X++(Y++Q)))[P.length+d+(P.length+X.length) - 1 - (P.length+s)]?=some y:=by
     rw[show P.length+d+(P.length+X.length) - 1 - (P.length+s)=P.length+X.length+(t - 1) by omega,J0 NR];exact l
    have m:(P++(X++(Y++Q)))[P.length+s]?=some x:=by
     rw[IG aa];exact j
    rw[lW g m] at b
    exact h.asymm _ _ (by simpa using b))
  -- turned round
  have ab:(if P.length+s < P.length+X.length∧P.length+X.length < P.length+X.length+t then rot (P++(X++(Y++Q))) (P.length+X.length) (P.length+X.length+t - (P.length+s)) (P.length+X.length - (P.length+s)) (P.length+X.length+t - (P.length+X.length)) else P++(X++(Y++Q)))
    = P++(X.take s++(Y.take t++(X.drop s++(Y.drop t++Q)))):=by
   by_cases c:s < X.length∧0 < t
   ·rw[if_pos NR]
    have lX:(X.take s).length=s:=by simp;omega
    have lD:(X.drop s).length=X.length - s:=by simp
    have lY:(Y.take t).length=t:=by simp;omega
    have:=DA (X.length - s+t) (X.drop s) (Y.take t) (P++X.take s) (Y.drop t++Q) NR NR NR
    simp only[gi,lX,lD,lY] at this
    rw[show P.length+X.length+t - (P.length+s)=X.length - s+t by omega,show P.length+X.length - (P.length+s)=X.length - s by omega,show P.length+X.length+t - (P.length+X.length)=t by omega]
    rw[show P.length+s+(X.length - s)=P.length+X.length by omega] at this
    simp only[gf] at this ⊢
    rw[← gf (Y.take t) (Y.drop t) Q,l3,← gf (X.take s) (X.drop s),l3] at this
    exact this
   ·rw[if_neg NR]
    by_cases G:s < X.length
    ·have:t=0:=by omega
     subst this
     simp only[List.take_zero,hR,ha]
     rw[← gf (X.take s) (X.drop s),l3]
    ·have:s=X.length:=by omega
     subst this
     simp only[List.take_length,List.drop_length,ha]
     rw[← gf (Y.take t) (Y.drop t) Q,l3]
  rw[ab]
  have I:(X.take s).length=s:=by simp;omega
  have K:(Y.take t).length=t:=by simp;omega
  have ad:(X.drop s).length=X.length - s:=by simp
  have ae:(Y.drop t).length=Y.length - t:=by simp
  have af:Srt lt (X.take s++X.drop s):=by rw[l3];exact u
  have ag:Srt lt (Y.take t++Y.drop t):=by rw[l3];exact v
  obtain⟨L,M,-⟩:=l0.1 af
  obtain⟨N,O,-⟩:=l0.1 ag
  -- the first half
  obtain⟨Z1,f1,z1,R⟩:∃ Z1,(if P.length < P.length+s∧P.length+s < P.length+d then ni lt f (P++(X.take s++(Y.take t++(X.drop s++(Y.drop t++Q))))) P.length (P.length+s) (P.length+d) else P++(X.take s++(Y.take t++(X.drop s++(Y.drop t++Q)))))
    = P++(Z1++(X.drop s++(Y.drop t++Q)))∧Srt lt Z1∧Z1.Perm (X.take s++Y.take t):=by
   by_cases c:0 < s∧0 < t
   ·rw[if_pos NR]
    obtain⟨Z,g,m,E⟩:=xr h f (X.take s) (Y.take t) P (X.drop s++(Y.drop t++Q)) L N NR NR NR
    rw[I,K,show P.length+s+t=P.length+d by omega] at g
    exact⟨Z,g,m,E⟩
   ·rw[if_neg NR]
    by_cases G:0 < s
    ·have:t=0:=by omega
     subst this
     exact⟨X.take s,NS,L,NS⟩
    ·have:s=0:=by omega
     subst this
     exact⟨Y.take t,NS,N,NS⟩
  rw[f1]
  have ah:Z1.length=d:=by rw[R.length_eq,gi,I,K];omega
  obtain⟨Z2,f2,z2,p2⟩:∃ Z2,(if P.length+d < P.length+X.length+t∧P.length+X.length+t < P.length+X.length+Y.length then ni lt f (P++(Z1++(X.drop s++(Y.drop t++Q)))) (P.length+d) (P.length+X.length+t) (P.length+X.length+Y.length) else P++(Z1++(X.drop s++(Y.drop t++Q))))
    = P++(Z1++(Z2++Q))∧Srt lt Z2∧Z2.Perm (X.drop s++Y.drop t):=by
   by_cases c:s < X.length∧t < Y.length
   ·rw[if_pos NR]
    obtain⟨Z,g,m,E⟩:=xr h f (X.drop s) (Y.drop t) (P++Z1) Q M O NR NR NR
    rw[gi,ad,ae,ah,show P.length+d+(X.length - s)=P.length+X.length+t by omega,show P.length+X.length+t+(Y.length - t)=P.length+X.length+Y.length by omega] at g
    simp only[gf] at g
    exact⟨Z,g,m,E⟩
   ·rw[if_neg NR]
    by_cases G:s < X.length
    ·have:t=Y.length:=by omega
     exact⟨X.drop s,by simp[this],M,by simp[this]⟩
    ·have:s=X.length:=by omega
     exact⟨Y.drop t,by simp[this],O,by simp[this]⟩
  rw[f2]
  obtain⟨q,r⟩:=H z1 R z2 p2
  exact⟨Z1++Z2,by simp only[gf],q,r⟩
variable {α:Type} {lt:α→α→Bool}
def zf (lt:α→α→Bool):Nat→List α→Nat→Nat→List α
 | 0,l,_,_=>l
 | f+1,l,a,j=>if a < j∧tF lt l j (j - 1)=true then zf lt f (swp l (j - 1) j) a (j - 1) else l
theorem DW (h:uv lt):∀ (f:Nat) (P S T Q:List α) (x:α),S.length < f→Srt lt (S++T)→(∀ t∈T,lt x t=true) →
  ∃ Z,zf lt f (P++(S++x :: (T++Q))) P.length (P.length+S.length)=P++(Z++Q)∧Srt lt Z∧Z.Perm (x :: (S++T))
 | 0,P,S,T,Q,x,h1,_,_=>by omega
 | f+1,P,S,T,Q,x,h1,e,i=>by
  unfold zf
  have d:∀ t∈T,lt t x=false:=fun t d=>h.asymm _ _ (i t d)
  by_cases c:S.length=0
  ·have:S=[]:=qa.1 c
   subst this
   rw[if_neg NS]
   exact⟨x :: T,NS,p1.2 ⟨d,by simpa using e⟩,NS⟩
  ·have j:S≠[]:=by rintro rfl;simp at c
   obtain⟨S',u,rfl⟩:∃ S' u,S=S'++[u]:=⟨S.dropLast,S.getLast j,(Oe j).symm⟩
   have m:(P++((S'++[u])++x :: (T++Q)))[P.length+(S'++[u]).length]?=some x:=by
    rw[mx NR,O0,mx (hn _),rs];rfl
   have n:(P++((S'++[u])++x :: (T++Q)))[P.length+(S'++[u]).length - 1]?=some u:=by
    have:P.length+(S'++[u]).length - 1=P.length+S'.length:=by simp
    rw[this,mx NR,O0,gf,mx (hn _),rs];rfl
   rw[lW m n]
   cases q:lt x u with
   | true=>
    rw[if_pos ⟨NS,rfl⟩]
    have k:=B6 (P:=P++S') (Q:=T++Q) (x:=u) (y:=x)
    have hw:swp (P++((S'++[u])++x :: (T++Q))) (P.length+(S'++[u]).length - 1) (P.length+(S'++[u]).length)=P++(S'++x :: ((u :: T)++Q)):=by
     simp only[gf,hK,ha,gi,gh,gk] at k ⊢
     rw[show P.length+(S'.length+(0+1)) - 1=P.length+S'.length by omega,show P.length+(S'.length+(0+1))=P.length+S'.length+1 by omega]
     exact k
    rw[hw]
    have o:Srt lt (S'++(u :: T)):=by simpa using e
    obtain⟨Z,p,z2,z3⟩:=DW h f P S' (u :: T) Q x (by simp at h1;omega) o (fun t d=>by
     rcases hE.1 d with rfl | d
     ·exact q
     ·exact i t d)
    rw[show P.length+(S'++[u]).length - 1=P.length+S'.length by simp]
    exact⟨Z,p,z2,by simpa using z3⟩
   | false=>
    rw[if_neg NS]
    obtain⟨s1,s2,r⟩:=l0.1 e
    refine⟨(S'++[u])++x :: T,NS,l0.2 ⟨s1,p1.2 ⟨d,s2⟩,fun a l b g=>?_⟩,ry⟩
    rcases hE.1 g with rfl | g
    ·exact Srt.last h s1 (z:=u) NS q a l
    ·exact r a l b g
def uf (lt:α→α→Bool):Nat→List α→Nat→Nat→Nat→List α
 | 0,l,_,_,_=>l
 | f+1,l,a,i,b=>if i < b then uf lt f (zf lt (i - a+1) l a i) a (i+1) b else l
theorem Eu (h:uv lt):∀ (f:Nat) (P S U Q:List α),U.length < f→Srt lt S →
  ∃ Z,uf lt f (P++(S++(U++Q))) P.length (P.length+S.length) (P.length+S.length+U.length)=P++(Z++Q)∧Srt lt Z∧Z.Perm (S++U)
 | 0,P,S,U,Q,h1,_=>by omega
 | f+1,P,S,[],Q,h1,b=>⟨S,by unfold uf;rw[if_neg NS];simp,b,NS⟩
 | f+1,P,S,u :: U,Q,h1,b=>by
  unfold uf
  rw[if_pos NS]
  obtain⟨Z,c,z2,z3⟩:=DW h (P.length+S.length - P.length+1) P S [] (U++Q) u NR (by simpa using b) NS
  simp only[ha,j2] at c z3
  simp only[hK]
  rw[c]
  have e:Z.length=S.length+1:=by rw[z3.length_eq];simp
  obtain⟨W,d,g,i⟩:=Eu h f P Z U Q (by simp at h1;omega) z2
  rw[e] at d
  rw[show P.length+S.length+1=P.length+(S.length+1) by omega,show P.length+S.length+(u :: U).length=P.length+(S.length+1)+U.length by simp;omega]
  refine⟨W,d,g,i.trans ?_⟩
  refine (z3.append_right U).trans ?_
  exact (ry (l₁:=S) (l₂:=U) (a:=u)).symm
theorem Ck (h:uv lt) (P X Q:List α) {f:Nat} (b:X.length < f):∃ Z,uf lt f (P++(X++Q)) P.length (P.length+1) (P.length+X.length)=P++(Z++Q)∧Srt lt Z∧Z.Perm X:=by
 cases X with
 | nil=>
  refine⟨[],?_,List.Pairwise.nil,List.Perm.refl _⟩
  cases f with
  | zero=>omega
  | succ f=>unfold uf;rw[if_neg NS]
 | cons x X=>
  obtain⟨Z,a,z2,z3⟩:=Eu h f P [x] X Q (by simp at b;omega) NS
  refine⟨Z,?_,z2,by simpa using z3⟩
  simp only[gh,gk,hK,ha] at a ⊢
  rw[show P.length+(X.length+1)=P.length+(0+1)+X.length by omega]
  exact a
def rK (lt:α→α→Bool) (s:Nat) (l:List α):Prop:=∀ k,Srt lt ((l.drop (k*s)).take s)
theorem rK.cons {s:Nat} {Z R:List α} (b:Srt lt Z) (a:Z.length=s) (c:rK lt s R):rK lt s (Z++R):=by
 intro k
 cases k with
 | zero=>rw[Gs,hR,← a,List.take_left];exact b
 | succ k=>
  have:=c k
  rw[hB,Cl,← List.drop_drop,← a,List.drop_left]
  rw[a];exact this
theorem rK.short {s:Nat} {Z:List α} (a:Srt lt Z) (b:Z.length≤s):rK lt s Z:=by
 intro k
 cases k with
 | zero=>rw[Gs,hR,NW b];exact a
 | succ k=>rw[hz (by rw[hB];omega)];simp
theorem rK.head {s:Nat} {X R:List α} (h:rK lt s (X++R)) (a:X.length=s):Srt lt X∧rK lt s R:=by
 refine⟨?_,fun k=>?_⟩
 ·have:=h 0
  rwa [Gs,hR,← a,List.take_left] at this
 ·have:=h (k+1)
  rw[hB,Cl,← List.drop_drop] at this
  have e:(X++R).drop s=R:=by rw[← a,List.drop_left]
  rwa [e] at this
theorem rK.all {s:Nat} {X:List α} (h:rK lt s X) (a:X.length≤s):Srt lt X:=by
 have:=h 0
 rwa [Gs,hR,NW a] at this
def yv (lt:α→α→Bool) (s:Nat):Nat→List α→Nat→Nat→List α
 | 0,l,_,_=>l
 | f+1,l,a,n=>if a+s≤n then yv lt s f (uf lt (s+1) l a (a+1) (a+s)) (a+s) n else uf lt (n - a+1) l a (a+1) n
theorem cut {s:Nat} {R:List α} (h:s≤R.length):∃ X a,R=X++a∧X.length=s:=⟨R.take s,R.drop s,NS,by simp;omega⟩
theorem E0 (h:uv lt) {s:Nat} (i:0 < s):∀ (f:Nat) (D R:List α),R.length < f→∃ R',yv lt s f (D++R) D.length (D.length+R.length)=D++R'∧R'.Perm R∧rK lt s R'
 | 0,D,R,h1=>by omega
 | f+1,D,R,h1=>by
  unfold yv
  by_cases c:s≤R.length
  ·rw[if_pos NR]
   obtain⟨X,d,rfl,b⟩:=cut c
   obtain⟨Z,a,z2,z3⟩:=Ck h D X d (f:=s+1) NR
   rw[b] at a
   rw[a]
   have e:Z.length=s:=by rw[z3.length_eq,b]
   simp only[gi] at h1
   obtain⟨R',g,j,k⟩:=E0 h i f (D++Z) d NR
   rw[gi,e,gf] at g
   rw[gi,b,← G0,g]
   exact⟨Z++R',NS,z3.append j,rK.cons z2 e k⟩
  ·rw[if_neg NR]
   obtain⟨Z,a,z2,z3⟩:=Ck h D R [] (f:=D.length+R.length - D.length+1) NR
   simp only[j2] at a
   rw[a]
   exact⟨Z,rfl,z3,rK.short z2 (by rw[z3.length_eq];omega)⟩
def pas (lt:α→α→Bool) (F s:Nat):Nat→List α→Nat→Nat→List α
 | 0,l,_,_=>l
 | f+1,l,a,n=>if a+2*s≤n then pas lt F s f (ni lt F l a (a+s) (a+2*s)) (a+2*s) n else if a+s < n then ni lt F l a (a+s) n else l
theorem GG (h:uv lt) {F s:Nat} (n:0 < s):∀ (f:Nat) (D R:List α),R.length < f→R.length≤F→rK lt s R→∃ R',pas lt F s f (D++R) D.length (D.length+R.length)=D++R'∧R'.Perm R∧rK lt (2*s) R'
 | 0,D,R,h1,_,_=>by omega
 | f+1,D,R,h1,e,g=>by
  unfold pas
  by_cases c:2*s≤R.length
  ·rw[if_pos NR]
   obtain⟨X,o,rfl,a⟩:=cut (s:=s) (R:=R) NR
   obtain⟨i,p⟩:=g.head a
   rw[gi] at c h1 e
   obtain⟨Y,d,rfl,j⟩:=cut (s:=s) (R:=o) NR
   obtain⟨k,q⟩:=p.head j
   rw[gi] at c h1 e
   obtain⟨Z,b,z2,z3⟩:=xr h F X Y D d i k NR NR NR
   rw[a,j,show D.length+s+s=D.length+2*s by omega] at b
   rw[b]
   have l:Z.length=2*s:=by rw[z3.length_eq,gi];omega
   obtain⟨R',m,r,t⟩:=GG h (F:=F) n f (D++Z) d NR NR q
   rw[gi,l,gf] at m
   rw[gi,gi,a,j,show D.length+(s+(s+d.length))=D.length+2*s+d.length by omega,m]
   refine⟨Z++R',NS,?_,rK.cons z2 l t⟩
   have:=z3.append r
   rwa [gf] at this
  ·rw[if_neg NR]
   by_cases c2:s < R.length
   ·rw[if_pos NR]
    obtain⟨X,Y,rfl,a⟩:=cut (s:=s) (R:=R) NR
    obtain⟨i,k⟩:=g.head a
    rw[gi] at c c2 h1 e
    obtain⟨Z,b,z2,z3⟩:=xr h F X Y D [] i (k.all NR) NR NR NR
    simp only[j2] at b
    rw[a] at b
    rw[gi,a,← G0,b]
    exact⟨Z,rfl,z3,rK.short z2 (by rw[z3.length_eq,gi];omega)⟩
   ·rw[if_neg NR]
    exact⟨R,rfl,List.Perm.refl _,rK.short (g.all NR) NR⟩
def stL (lt:α→α→Bool) (F:Nat):Nat→List α→Nat→Nat→List α
 | 0,l,_,_=>l
 | f+1,l,n,s=>if s < n then stL lt F f (pas lt F s (n+1) l 0 n) n (2*s) else l
theorem GO (h:uv lt) {F:Nat}:∀ (f:Nat) (l:List α) (s:Nat),0 < s→l.length - s < f→l.length≤F→rK lt s l→Srt lt (stL lt F f l l.length s)∧(stL lt F f l l.length s).Perm l
 | 0,l,s,_,h1,_,_=>by omega
 | f+1,l,s,e,h1,g,a=>by
  unfold stL
  by_cases c:s < l.length
  ·rw[if_pos c]
   obtain⟨R',b,d,i⟩:=GG h (F:=F) e (l.length+1) [] l NR g a
   simp only[ha,gk,ho] at b
   rw[b]
   have j:R'.length=l.length:=d.length_eq
   obtain⟨g1,g2⟩:=GO (F:=F) h f R' (2*s) NR NR NR i
   rw[j] at g1 g2
   exact⟨g1,g2.trans d⟩
  ·rw[if_neg c]
   exact⟨a.all NR,List.Perm.refl _⟩
def wj (lt:α→α→Bool) (F:Nat) (l:List α):List α:=stL lt F (l.length+1) (yv lt 20 (l.length+1) l 0 l.length) l.length 20
theorem FD (h:uv lt) {F:Nat} (l:List α) (e:l.length≤F):Srt lt (wj lt F l)∧(wj lt F l).Perm l:=by
 obtain⟨R,a,b,c⟩:=E0 h (s:=20) NR (l.length+1) [] l NR
 simp only[ha,gk,ho] at a
 unfold wj
 rw[a]
 have d:R.length=l.length:=b.length_eq
 obtain⟨g1,g2⟩:=GO h (F:=F) (l.length+1) R 20 NR NR NR c
 rw[d] at g1 g2
 exact⟨g1,g2.trans b⟩
variable {α:Type} {lt:α→α→Bool}
theorem ES:∀ (A B:List α),(∀ a∈A,∀ b∈A,lt a b=false→lt b a=false→a=b)→Srt lt A→Srt lt B→A.Perm B→A=B
 | [],B,_,_,_,h=>(List.perm_nil.1 h.symm).symm
 | a :: A,[],_,_,_,h=>by have:=h.length_eq;simp at this
 | a :: A,b :: B,he,c,d,h=>by
  obtain⟨f,a2⟩:=p1.1 c
  obtain⟨g,i⟩:=p1.1 d
  have m2:b∈a :: A:=h.mem_iff.2 NS
  have e:a=b:=by
   have m1:a∈b :: B:=h.mem_iff.1 NS
   rcases hE.1 m1 with m1 | m1
   ·exact m1
   ·rcases hE.1 m2 with m2' | m2'
    ·exact m2'.symm
    ·exact he a NS b m2 (g a m1) (f b m2')
  subst e
  rw[ES A B (fun x j y k=>he x (by simp[j]) y (by simp[k])) a2 i (List.Perm.cons_inv h)]
def wX (t:ao):Bool:=t.Hits.all fun n=>decide (n=0)
def sB (xs:List ag) (i:Int) (r:af) (t:ao):List a7:=if ((bd xs (pos r.Pats) t.Ids []).2 && (wX t && r.Conds.all fun c=>holds c (bd xs (pos r.Pats) t.Ids []).1))=true then [⟨i,t.Ids,(bd xs (pos r.Pats) t.Ids []).1⟩] else []
def oF (xs:List ag) (i:Int) (r:af) (l:List ao):List a7:=l.flatMap (sB xs i r)
def pR (w:aP):List ao:=match w.Levels[w.Levels.length - 1]? with
 | some L=>L.Toks
 | none=>[]
def uj (l:List a7):List a7:=wj mh l.length l
def CY (xs:List ag):Nat→List af→List aP→List a7
 | i,r :: a,w :: ws=>uj (oF xs (i:Int) r (pR w))++CY xs (i+1) a ws
 | _,_,_=>[]
theorem C9 {xs:List ag} {i:Int} {r:af} {l:List ao} {x:a7} (h:x∈oF xs i r l):∃ t∈l,x=⟨i,t.Ids,(bd xs (pos r.Pats) t.Ids []).1⟩:=by
 obtain⟨t,b,a⟩:=ix.1 h
 unfold sB at a
 split at a
 ·simp only[hY] at a
  exact⟨t,b,a⟩
 ·cases a
theorem Bv {xs:List ag} {i:Int} {r:af}:∀ (l:List ao),(oF xs i r l).length≤l.length
 | []=>by simp[oF]
 | t :: l=>by
  have h1:=Bv (xs:=xs) (i:=i) (r:=r) l
  unfold oF at h1 ⊢
  rw[ks,gi,gh]
  have a:(sB xs i r t).length≤1:=by unfold sB;split <;> simp
  omega
theorem Hu {xs:List ag} {i:Int} {r:af} {l:List ao} {x y:a7} (c:x∈oF xs i r l) (d:y∈oF xs i r l) (h1:mh x y=false) (f:mh y x=false):x=y:=by
 have b:=BA x y
 rw[h1,f] at b
 have a:rB x y=true:=by
  cases e:rB x y with
  | true=>rfl
  | false=>rw[e] at b;cases b
 unfold rB at a
 simp only[gm,decide_eq_true_eq] at a
 obtain⟨t,_,rfl⟩:=C9 c
 obtain⟨u,_,rfl⟩:=C9 d
 simp only at a
 rw[a.2]
theorem AC (l:List a7):Srt mh (uj l)∧(uj l).Perm l:=FD vO l (hn _)
theorem Is {xs:List ag} {i:Int} {r:af} {l:List ao} {A:List a7} (h1:Srt mh A) (c:A.Perm (oF xs i r l)):A=uj (oF xs i r l):=by
 obtain⟨g1,g2⟩:=AC (oF xs i r l)
 exact ES A _ (fun a d b e f g=>Hu (c.mem_iff.1 d) (c.mem_iff.1 e) f g) h1 g1 (c.trans g2.symm)
end Go.Proofs.YtedmfnmbjglmbaaGreat
