/- Plain laws, one after the other: PLWent. -/
import Derived.Test.YtedmfnmbjglmbaaGreatTWent
import Derived.Test.YtedmfnmbjglmbaaGreatPLib
import Derived.Test.YtedmfnmbjglmbaaGreatWWentMod
import Derived.Test.YtedmfnmbjglmbaaGreatWWentPur
namespace Go.Proofs.YtedmfnmbjglmbaaGreat
open Eng
set_option linter.unusedVariables false
set_option linter.unusedSimpArgs false
theorem JT {N:Nat} (c:1099000000000≤N) (r:ah) (s:ae) (e:SzS r s) (F:List an) (a:bk) (j:Nat) (K:List an→Int→Option aJ) (t:an) (f:idx F (j:Int)=some t) (m:j≤4294967296) (g:t.Ids.length+1≤ao r.Pats) (h:a.L.length≤4294967296) (b:List an) (k:b.length+a.L.length≤4294967296) :
  fZ N r s F a (j:Int) K N b 0=K (b++oT s.Items (pos r.Pats) t.Ids a.L) ((j+1:Nat):Int):=by
 refine lp' c a.L h (fun n (u:List an) i=>fZ N r s F a (j:Int) K n u i) (fun w u=>K (u++oT s.Items (pos r.Pats) t.Ids w) ((j+1:Nat):Int)) (fun u w=>u.length+w.length≤4294967296) b k (fun n u i v w g1 g2 g3 g4 g5 g6 d l=>?_) (fun n u i g1 g2 d=>?_)
 ·simp only[gj] at d
  have h1:=uk s.Items (pos r.Pats) t.Ids v
  simp only[fZ,g5,if_true,f,g4,fI,Ee c r s e u t.Ids v g OV,g6]
  rw[l _ (by rw[gk];omega)]
  simp[oT]
 ·simp only[fZ,g2,gb,if_false,wr1 j OV];simp[oT]
theorem JC {N:Nat} (d:1099000000000≤N) (r:ah) (s:ae) (f:SzS r s) (b:aH) (s1:List ar) (F:List an) (k:Int) (K:List ar→List an→Int→Option aJ) (a:bk) (g:∀ t∈F,t.Ids.length+1≤ao r.Pats) (h:F.length≤4294967296) (j:a.L.length≤4294967296) (c:List an) (l:c.length+F.length*a.L.length≤4294967296) :
  eQ N r s b s1 F k K a N c 0=cG N r s b s1 k K N (c++F.flatMap fun t=>oT s.Items (pos r.Pats) t.Ids a.L) 0:=by
 refine lp' d F h (fun n (u:List an) i=>eQ N r s b s1 F k K a n u i) (fun w u=>cG N r s b s1 k K N (u++w.flatMap fun t=>oT s.Items (pos r.Pats) t.Ids a.L) 0) (fun u w=>u.length+w.length*a.L.length≤4294967296) c l (fun n u i v w g1 g2 g3 g4 g5 g6 e m=>?_) (fun n u i g1 g2 e=>?_)
 ·rw[gj,hE] at e
  have h1:=AH s.Items (pos r.Pats) v.Ids a.L
  simp only[eQ,g5,if_true]
  rw[JT d r s f F a i _ v g4 OV (g v g2) j u OV,m _ (by rw[gk];omega),n0,gi]
 ·simp only[eQ,g2,gb,if_false];simp
theorem Kv {N:Nat} (j:1099000000000≤N) (r:ah) (s:ae) (e:SzS r s) (a:aH) (done:List ar) (L:ar) (Ls:List ar) (K:List ar→List an→Int→Option aJ) (v:a.Levels.length=(pos r.Pats).length) (hk:done.length+1≤(pos r.Pats).length) (w:(pos r.Pats).length=ao r.Pats) (M:List an)
  (k:∀ t∈M,t.Ids.length=done.length+1∧(okB s.Items (pos r.Pats) t.Ids).2=true) (x:L.Toks.length+M.length≤4294967296) :
  cG N r s a (done++L :: Ls) (done.length:Int) K N M 0=K (done++⟨L.Toks++M.map (wI s.Items (pos r.Pats) (neg r.Pats) done.length)⟩ :: Ls) (M.map (wI s.Items (pos r.Pats) (neg r.Pats) done.length)) ((done.length+1:Nat):Int):=by
 have y:=e.pl
 have z:=eh r.Pats
 have f:IntKind.i64.wrap ((a.Levels.length:Int) - 1)=((a.Levels.length - 1:Nat):Int):=by
  rw[show ((a.Levels.length:Int) - 1)=((a.Levels.length - 1:Nat):Int) by omega]
  exact wr OV OV
 have fin:∀ (n:Nat) (Z:List an) (i:Int),Z.length=M.length→((if decide (i < (Z.length:Int)) then some (decide ((done.length:Int)=IntKind.i64.wrap ((a.Levels.length:Int) - 1))) else some false)=some false) →
   cG N r s a (done++L :: Ls) (done.length:Int) K (n+1) Z i=K (done++⟨L.Toks++Z⟩ :: Ls) Z ((done.length+1:Nat):Int):=by
  intro n Z i A l
  have o:(done++L :: Ls).set ((done.length:Int)).toNat (⟨L.Toks++Z⟩:ar)=done++⟨L.Toks++Z⟩ :: Ls:=by rw[hQ,jd,gi];rfl
  simp only[cG,l,fI,gb,if_false,du,bV (show L.Toks.length+Z.length≤4294967296 by omega),o,wr1 done.length OV]
 by_cases g:done.length+1=(pos r.Pats).length
 ·have c2:decide ((done.length:Int)=IntKind.i64.wrap ((a.Levels.length:Int) - 1))=true:=by rw[f];exact decide_eq_true OV
  have lp:∀ (Z:List an) (n:Nat) (D:List an),Z.length < n→D.length+Z.length=M.length→(∀ t∈Z,t∈M) →
    cG N r s a (done++L :: Ls) (done.length:Int) K n (D++Z) (D.length:Int)=K (done++⟨L.Toks++(D++Z.map (wI s.Items (pos r.Pats) (neg r.Pats) done.length))⟩ :: Ls) (D++Z.map (wI s.Items (pos r.Pats) (neg r.Pats) done.length)) ((done.length+1:Nat):Int):=by
   intro Z
   induction Z with
   | nil=>
    intro n D b c hm
    obtain⟨n,rfl⟩:∃ m,n=m+1:=⟨n - 1,by simp at b;omega⟩
    have c1:decide ((D.length:Int) < ((D++[]).length:Int))=false:=decide_eq_false OW
    rw[fin n (D++[]) (D.length:Int) (by simpa using c) (by rw[c1];rfl)]
    simp
   | cons t Z p=>
    intro n D b c hm
    obtain⟨n,rfl⟩:∃ m,n=m+1:=⟨n - 1,OV⟩
    simp only[gj] at b c
    have c1:decide ((D.length:Int) < ((D++t :: Z).length:Int))=true:=decide_eq_true (by simp;omega)
    obtain⟨h1,q⟩:=k t (hm t OW)
    have d:wI s.Items (pos r.Pats) (neg r.Pats) done.length t=⟨t.Ids,eT s.Items (neg r.Pats) (okB s.Items (pos r.Pats) t.Ids).1⟩:=by unfold wI;rw[if_pos g]
    simp only[cG,c1,if_true,c2,fI,du,IL j r s e t OV q,hQ,jd,wr1 D.length OV]
    have:=p n (D++[⟨t.Ids,eT s.Items (neg r.Pats) (okB s.Items (pos r.Pats) t.Ids).1⟩]) OV (by simp;omega) (fun u hu=>hm u (by simp[hu]))
    simp only[gk,gj,gm,ho] at this
    rw[this,hL,d]
    simp only[gi,hS,hz]
  have:=lp M N [] OV OW (fun t h=>h)
  simpa using this
 ·have c2:decide ((done.length:Int)=IntKind.i64.wrap ((a.Levels.length:Int) - 1))=false:=by rw[f];exact decide_eq_false OV
  have d:M.map (wI s.Items (pos r.Pats) (neg r.Pats) done.length)=M:=by
   rw[show wI s.Items (pos r.Pats) (neg r.Pats) done.length=id from by funext t;unfold wI;rw[if_neg g];rfl,List.map_id]
  obtain⟨m,rfl⟩:∃ m,N=m+1:=⟨N - 1,OV⟩
  rw[d]
  have:=fin m M 0 rfl (by rw[c2];split<;>rfl)
  exact this
theorem EY {N:Nat} (w:1099000000000≤N) (r:ah) (s:ae) (l:SzS r s) (c:aG) (m:aJ) (id:Int) (h:List Bool) (d:aH) (done:List ar) (L:ar) (Ls:List ar) (K:List ar→List an→Int→Option aJ) (k:Nat) (hk:done.length=k) (B F:List an) (a:Int) (A:bk) (b:Bool)
  (o:idx c.Pos (k:Int)=some a) (E:idx m.Alphas a=some A) (x:idx h a=some b) (G:b=false→∀ row:List Int,row.length=k→lI s.Items (pos r.Pats) row id=[])
  (H:k≠0→∃ D,done=D++[⟨B++F⟩]) (I:k=0→B=[]) (M:k+1≤ao r.Pats) (y:∀ t∈B,t.Ids.length=k) (O:∀ t∈F,t.Ids.length=k) (P:A.L.length≤4294967296) (Q:F.length≤4294967296) (j:List an) (R:j.length+B.length+F.length*A.L.length≤4294967296) :
  ep N r c m s id h d (done++L :: Ls) F (k:Int) K (B.length:Int) N j 0=cG N r s d (done++L :: Ls) (k:Int) K N (j++(B.flatMap fun t=>lI s.Items (pos r.Pats) t.Ids id)++F.flatMap fun t=>oT s.Items (pos r.Pats) t.Ids A.L) 0:=by
 have a1:=l.pl
 have a6:=eh r.Pats
 have tail:∀ (n:Nat) (u:List an) (i:Int),((if decide (i < (B.length:Int)) then ((idx c.Pos (k:Int)).bind fun S=>((idx h S).bind fun T=>some T)) else some false)=some false)→u.length+F.length*A.L.length≤4294967296 →
   ep N r c m s id h d (done++L :: Ls) F (k:Int) K (B.length:Int) (n+1) u i=cG N r s d (done++L :: Ls) (k:Int) K N (u++F.flatMap fun t=>oT s.Items (pos r.Pats) t.Ids A.L) 0:=by
  intro n u i U hu
  unfold ep
  rw[U]
  simp only[fI,gb,if_false,o,E]
  exact JC w r s l d _ F (k:Int) K A (fun t p=>by rw[O t p];exact M) Q P u hu
 cases b with
 | false=>
  have q:(B.flatMap fun t=>lI s.Items (pos r.Pats) t.Ids id)=[]:=by
   rw[mT (g:=fun _=>[]) fun t p=>G rfl _ (y t p)];simp
  obtain⟨n,rfl⟩:∃ n,N=n+1:=⟨N - 1,OV⟩
  rw[q,ix]
  exact tail n j 0 (by simp only[o,x,fI];split<;>rfl) OV
 | true=>
  have lp:∀ (Z:List an) (n:Nat) (D:List an) (u:List an),Z.length < n→B=D++Z→u.length+Z.length+F.length*A.L.length≤4294967296 →
    ep N r c m s id h d (done++L :: Ls) F (k:Int) K (B.length:Int) n u (D.length:Int)=cG N r s d (done++L :: Ls) (k:Int) K N (u++(Z.flatMap fun t=>lI s.Items (pos r.Pats) t.Ids id)++F.flatMap fun t=>oT s.Items (pos r.Pats) t.Ids A.L) 0:=by
   intro Z
   induction Z with
   | nil=>
    intro n D u v f hu
    obtain⟨n,rfl⟩:∃ m,n=m+1:=⟨n - 1,by simp at v;omega⟩
    have c1:decide ((D.length:Int) < (B.length:Int))=false:=decide_eq_false (by rw[f];simp)
    rw[tail n u _ (by rw[c1];rfl) (by simpa using hu)]
    simp
   | cons t Z V=>
    intro n D u v f hu
    obtain⟨n,rfl⟩:∃ m,n=m+1:=⟨n - 1,OV⟩
    simp only[gj] at v hu
    have z:B.length=D.length+(Z.length+1):=by rw[f];simp
    have c1:decide ((D.length:Int) < (B.length:Int))=true:=decide_eq_true OV
    have W:k≠0:=fun e=>by rw[I e] at z;simp at z
    obtain⟨D',C⟩:=H W
    have X:IntKind.i64.wrap ((k:Int) - 1)=((k - 1:Nat):Int):=by
     rw[show ((k:Int) - 1)=((k - 1:Nat):Int) by omega]
     exact wr OV OV
    have q:idx (done++L :: Ls) ((k - 1:Nat):Int)=some ⟨B++F⟩:=by
     rw[C,gi,← hk,C,mR]
     simp
    have Y:idx (B++F) (D.length:Int)=some t:=by rw[f,gi];exact du _ _ _
    have h1:=uk s.Items (pos r.Pats) t.Ids id
    have a7:=y t (by rw[f];simp)
    simp only[ep,c1,if_true,o,x,fI,X,q,Y,Ee w r s l u t.Ids id OV OV,wr1 D.length OV]
    have:=V n (D++[t]) (u++lI s.Items (pos r.Pats) t.Ids id) OV (by rw[f];simp) (by rw[gk];omega)
    simp only[gk,gj,gm,ho] at this
    rw[this,n0]
    simp only[gi]
  exact lp B N [] j OV rfl R
theorem Fq {N:Nat} (o:1099000000000≤N) (r:ah) (s:ae) (h:SzS r s) (c:aG) (m:aJ) (at_ id:Int) (f:List Bool) (d:aH) (O:d.Levels.length=(pos r.Pats).length) (Z:1≤d.Levels.length) (P:(pos r.Pats).length=ao r.Pats) (A:Nat→List Int) (w:∀ k,(A k).length≤4294967296)
  (Q:∀ k,k < d.Levels.length→∃ a i b,idx c.Pos (k:Int)=some a∧idx m.Alphas a=some i∧i.L=A k∧idx f a=some b∧(b=false→∀ row:List Int,row.length=k→lI s.Items (pos r.Pats) row id=[])) :
  ∀ (rest:List ar) (n:Nat) (done:List ar) (B F:List an),rest.length < n→done.length+rest.length=d.Levels.length→(done.length≠0→∃ D,done=D++[⟨B++F⟩])→(done.length=0→B=[]∧F=[])→(∀ t∈B,t.Ids.length=done.length)→(∀ t∈F,t.Ids.length=done.length)→(∀ i L,rest[i]?=some L→∀ t∈L.Toks,t.Ids.length=done.length+1+i) →
   F.length≤4294967296→wg (fun k=>(A k).length) done.length (rest.map (·.Toks.length)) B.length F.length →
   bF N r c m at_ s id f d n (done++rest) F (done.length:Int)=some ⟨m.Alphas,m.Rules.set at_.toNat ⟨done++lS s.Items (pos r.Pats) (neg r.Pats) id A done.length rest B F⟩⟩
 | [],n,done,B,F,x,y,R,z,p,q,C,S,T=>by
  obtain⟨n,rfl⟩:∃ m,n=m+1:=⟨n - 1,by simp at x;omega⟩
  simp only[gm,jt] at y
  have a1:=h.pl
  have a6:=eh r.Pats
  have E:IntKind.i64.wrap ((d.Levels.length:Int) - 1)=((d.Levels.length - 1:Nat):Int):=by
   rw[show ((d.Levels.length:Int) - 1)=((d.Levels.length - 1:Nat):Int) by omega]
   exact wr OV OV
  have c1:decide ((done.length:Int)≤IntKind.i64.wrap ((d.Levels.length:Int) - 1))=false:=by rw[E];exact decide_eq_false OV
  simp only[bF,c1,gb,if_false,lS]
 | L :: Ls,n,done,B,F,x,y,R,z,p,q,C,S,T=>by
  obtain⟨n,rfl⟩:∃ m,n=m+1:=⟨n - 1,OV⟩
  simp only[gj] at x y
  obtain⟨U,V⟩:=T
  simp only at U V
  have a1:=h.pl
  have a6:=eh r.Pats
  have E:IntKind.i64.wrap ((d.Levels.length:Int) - 1)=((d.Levels.length - 1:Nat):Int):=by
   rw[show ((d.Levels.length:Int) - 1)=((d.Levels.length - 1:Nat):Int) by omega]
   exact wr OV OV
  have c1:decide ((done.length:Int)≤IntKind.i64.wrap ((d.Levels.length:Int) - 1))=true:=by rw[E];exact decide_eq_true OV
  obtain⟨a,i,b,G,W,v,H,I⟩:=Q done.length OV
  have a7:=xj s.Items (pos r.Pats) (neg r.Pats) id done.length B F (A done.length)
  have a8:=AQ (xs:=s.Items) (ps:=pos r.Pats) (ns:=neg r.Pats) (id:=id) (A:=A done.length) p q
  have X:=H6 (xs:=s.Items) (ps:=pos r.Pats) (ns:=neg r.Pats) (id:=id) (A:=A done.length) (fun e=>(z e).2) p q
  have aa:=J2 (xs:=s.Items) (ps:=pos r.Pats) (id:=id) (A:=A done.length) p q
  have af:(xN s.Items (pos r.Pats) id done.length B F (A done.length)).length=(jp s.Items (pos r.Pats) (neg r.Pats) id done.length B F (A done.length)).length:=by rw[← X,p4]
  have key:∀ M,M=xN s.Items (pos r.Pats) id done.length B F (A done.length)→cG N r s d (done++L :: Ls) (done.length:Int) (bF N r c m at_ s id f d n) N M 0=some ⟨m.Alphas,m.Rules.set at_.toNat ⟨done++lS s.Items (pos r.Pats) (neg r.Pats) id A done.length (L :: Ls) B F⟩⟩:=by
   intro M hM
   subst hM
   rw[Kv o r s h d done L Ls _ O OV P _ aa OV,X]
   have:=Fq o r s h c m at_ id f d O Z P A w Q Ls n (done++[⟨L.Toks++jp s.Items (pos r.Pats) (neg r.Pats) id done.length B F (A done.length)⟩]) L.Toks (jp s.Items (pos r.Pats) (neg r.Pats) id done.length B F (A done.length)) OV (by simp;omega)
    (fun _=>⟨done,rfl⟩) (fun e=>by simp at e) (fun t u=>by have:=C 0 L rfl t u;simpa using this) (fun t u=>by simpa using a8 t u) (fun j M hj t u=>by have:=C (j+1) M (by simpa using hj) t u;simp only[gk,gj,gm];omega) OV
    (by simp only[gk,gj,gm];exact xi V (hA _) a7)
   simp only[gk,gj,gm,ho,gi,hS,hz] at this
   exact this
  simp only[bF,c1,if_true]
  by_cases g:done.length=0
  ·obtain⟨rfl,rfl⟩:=z g
   have c2:decide ((done.length:Int)=0)=true:=decide_eq_true OV
   have K:decide ((0:Int) < (done.length:Int))=false:=decide_eq_false OV
   have ab:idx c.Pos 0=some a:=by rw[← G,g];rfl
   have h1:=uk s.Items (pos r.Pats) [] id
   have fin:∀ l,l=lI s.Items (pos r.Pats) [] id→im N r c m s id f d (done++L :: Ls) [] (done.length:Int) (bF N r c m at_ s id f d n) l=some ⟨m.Alphas,m.Rules.set at_.toNat ⟨done++lS s.Items (pos r.Pats) (neg r.Pats) id A done.length (L :: Ls) [] []⟩⟩:=by
    intro l hu
    unfold im jo
    rw[K]
    simp only[gb,if_false]
    have ag:l.length≤1:=by rw[hu];exact h1
    have:=EY o r s h c m id f d done L Ls (bF N r c m at_ s id f d n) done.length rfl [] [] a i b G W H I (fun e=>absurd g e) (fun _=>rfl) OV OW OW (by rw[v];exact w _) OW l (by simp;omega)
    simp only[gm,l4] at this
    have h5:ep N r c m s id f d (done++L :: Ls) [] (done.length:Int) (bF N r c m at_ s id f d n) 0 N l 0=_:=this
    rw[h5]
    exact key _ (by unfold xN;rw[if_pos g,hu];simp)
   simp only[c2,if_true,ab,H,fI]
   cases b with
   | true=>
    simp only[if_true,Ee o r s h [] [] id (by simp;omega) OW,fI]
    exact fin _ OW
   | false=>
    simp only[gb,if_false]
    exact fin _ (I rfl [] (by simp[g])).symm
  ·have c2:decide ((done.length:Int)=0)=false:=decide_eq_false OV
   have K:decide ((0:Int) < (done.length:Int))=true:=decide_eq_true OV
   obtain⟨D',Y⟩:=R g
   have ad:IntKind.i64.wrap ((done.length:Int) - 1)=((done.length - 1:Nat):Int):=by
    rw[show ((done.length:Int) - 1)=((done.length - 1:Nat):Int) by omega]
    exact wr OV OV
   have e1:idx (done++L :: Ls) ((done.length - 1:Nat):Int)=some ⟨B++F⟩:=by
    rw[Y,gi,mR]
    simp
   rw[if_neg g] at U
   have ai:B.length≤4294967296:=by omega
   have e2:IntKind.i64.wrap (((B++F).length:Int) - (F.length:Int))=(B.length:Int):=by
    rw[gk,show (((B.length+F.length:Nat):Int) - (F.length:Int))=(B.length:Int) by omega]
    exact wr OV OV
   simp only[c2,gb,if_false,fI,im,K,if_true,ad,e1,e2,jo]
   rw[EY o r s h c m id f d done L Ls _ done.length rfl B F a i b G W H I (fun _=>⟨D',Y⟩) (fun e=>absurd e g) OV p q (by rw[v];exact w _) S [] (by rw[v];simp;omega)]
   exact key _ (by unfold xN;rw[if_neg g,v];simp)
theorem AL {b0:List aw}:∀ (as:List cO) (vs:List bP) (s:List aw) (pre:List bP),(eF b0 as vs s).2=true→as.length=vs.length→kD (pre++vs) (ats pre.length as) (l7 as)=true
 | [],vs,s,pre,_,_=>rfl
 | a :: as,[],s,pre,_,c=>by simp at c
 | a :: as,v :: vs,s,pre,h,c=>by
  have e:as.length=vs.length:=by simpa using c
  have next:∀ d,(eF b0 as vs d).2=true→kD (pre++v :: vs) (ats (pre.length+1) as) (l7 as)=true:=fun d f=>by
   have:=AL as vs d (pre++[v]) f e
   simpa using this
  unfold eF at h
  unfold ats l7
  by_cases b:a.K=2
  ·rw[if_pos b] at h
   rw[if_pos b,if_pos b]
   by_cases he:bS a.V v=true
   ·rw[if_pos he] at h
    rw[iG,decide_eq_true_eq] at he
    unfold kD
    have g:idx (pre++v :: vs) (pre.length:Int)=some a.V:=by
     rw[ag (show pre.length < (pre++v :: vs).length by simp),he];simp
    rw[next s h,g,decide_eq_true (show (0:Int)≤(pre.length:Int) by omega),decide_eq_true (show (pre.length:Int) < ((pre++v :: vs).length:Int) by simp;omega)]
    simp
   ·rw[if_neg he] at h;cases h
  ·rw[if_neg b] at h
   rw[if_neg b,if_neg b]
   split at h
   ·split at h
    ·split at h
     ·exact next s h
     ·cases h
    ·exact next _ h
   ·exact next s h
theorem BG {p:az} {f:aL} {b:List aw} (h:(bz p f b).2=true):dK (aX p) f=true:=by
 unfold bz at h
 split at h
 ·rename_i a
  have:=AL p.Args f.Fields b [] h a.2
  have hk:seq f.Kind p.Kind=true:=by
   have:=a.1
   rw[lK,decide_eq_true_eq] at this ⊢
   exact this.symm
  show ((seq f.Kind p.Kind && decide ((f.Fields.length:Int)=(p.Args.length:Int))) && kD f.Fields (ats 0 p.Args) (l7 p.Args))=true
  rw[hk,decide_eq_true (show (f.Fields.length:Int)=(p.Args.length:Int) by omega)]
  simpa using this
 ·cases h
theorem ID {N:Nat} (r:1099000000000≤N) (a:ax) (f:aL) (h:a.At.length≤1048576) (s:f.Fields.length≤1048576):qe N a f=some (dK a f):=by
 have k:IntKind.i64.wrap ((f.Fields.length:Int) - 1)=(f.Fields.length:Int) - 1:=wr OV OV
 have lp:∀ (n i:Nat),i≤a.At.length→a.At.length - i < n→iS N a f n i=some (kD f.Fields (a.At.drop i) (a.Consts.drop i)):=by
  intro n
  induction n with
  | zero=>intro i _ h;omega
  | succ n l=>
   intro i t u
   simp only[iS,in0,fI,k]
   by_cases b:i < a.At.length
   ·have c1:decide ((i:Int) < (a.At.length:Int))=true:=decide_eq_true OV
    rw[hy b]
    simp only[c1,if_true,ag b,fI,wr1 i OV,l (i+1) OV OV]
    by_cases c:i < a.Consts.length
    ·have c2:decide ((a.Consts.length:Int)≤(i:Int))=false:=decide_eq_false OV
     rw[hy c,kD]
     by_cases m:a.At[i] < 0
     ·simp[show ¬ a.Consts.length≤i by omega,show ¬ 0≤a.At[i] by omega]
     ·by_cases h1:(f.Fields.length:Int)≤a.At[i]
      ·simp[show ¬ a.Consts.length≤i by omega,show 0≤a.At[i] by omega,show ¬ a.At[i]≤(f.Fields.length:Int) - 1 by omega,show ¬ a.At[i] < (f.Fields.length:Int) by omega]
      ·obtain⟨j,d⟩:∃ j:Nat,a.At[i]=(j:Int):=⟨a.At[i].toNat,OV⟩
       have e:j < f.Fields.length:=by omega
       rw[d]
       rw[d] at m h1
       have o:(j:Int)≤(f.Fields.length:Int) - 1:=by omega
       have p:(0:Int)≤(j:Int):=by omega
       simp only[p,o,decide_true,Bool.and_self,hI,c2,decide_false,gb,if_false,fI,ag e,ag c,iG,Option.some.injEq]
       by_cases he:f.Fields[j]=a.Consts[i]<;>simp[he,e]
    ·have c2:decide ((a.Consts.length:Int)≤(i:Int))=true:=decide_eq_true OV
     rw[hB (show a.Consts.length≤i by omega),kD]
     simp[show a.Consts.length≤i by omega]
   ·have c1:decide ((i:Int) < (a.At.length:Int))=false:=decide_eq_false OV
    rw[hB (show a.At.length≤i by omega)]
    simp only[c1,gb,if_false,kD]
 have g:=lp N 0 OV OV
 rw[hY,hY,show ((0:Nat):Int)=0 from rfl] at g
 unfold qe dK
 rw[g]
 have hk:seq a.Kind f.Kind=seq f.Kind a.Kind:=by rw[lK,lK];simp[eq_comm]
 rw[hk]
 have q:decide (a.N=(f.Fields.length:Int))=decide ((f.Fields.length:Int)=a.N):=by rw[decide_eq_decide];exact eq_comm
 rw[q]
 cases seq f.Kind a.Kind<;>cases decide ((f.Fields.length:Int)=a.N)<;>simp
theorem qL {xs:List ak} {id:Int}:∀ (ps:List az) (row:List Int) (l:List aw),(be xs (ps.take (row.length+1)) (row++[id]) l).2=true→∃ p,ps[row.length]?=some p∧dK (aX p) (aF xs id).1=true
 | [],row,l,h=>by
  cases row<;>simp[be] at h
 | p :: ps,[],l,h=>by
  simp only[gm,ho,P1,hz,be] at h
  split at h
  ·rename_i a
   exact⟨p,rfl,BG a.2⟩
  ·cases h
 | p :: ps,v :: row,l,h=>by
  simp only[gj,P1,hS,be] at h
  split at h
  ·have:=qL ps row _ h
   simpa using this
  ·cases h
theorem Gu {xs:List ak} {ps:List az} {row:List Int} {id:Int} {p:az} (hp:ps[row.length]?=some p) (h:dK (aX p) (aF xs id).1=false):lI xs ps row id=[]:=by
 unfold lI
 rw[if_neg]
 intro hk
 unfold okB at hk
 rw[gk,gj,gm,ho] at hk
 obtain⟨q,a,b⟩:=qL ps row [] hk
 rw[hp] at a
 cases a
 rw[h] at b
 cases b
theorem LN {N:Nat} (p:1099000000000≤N) (r:ah) (c:aG) (m:aJ) (at_:Int) (s:ae) (id:Int) (l:List Bool) (row:aH) (n:SzS r s) (q:(pos r.Pats).length=ao r.Pats) (v:idx m.Rules at_=some row) (ok:Dn m.Alphas r c row)
  (w:∀ L,row.Levels[row.Levels.length - 1]?=some L→∀ t∈L.Toks,∀ x∈t.Hits,InR x)
  (y:∀ k,k < row.Levels.length→∃ a i b,idx c.Pos (k:Int)=some a∧idx m.Alphas a=some i∧idx l a=some b∧(b=false→∀ row:List Int,row.length=k→lI s.Items (pos r.Pats) row id=[])) :
  ov N r c m at_ s id (aF s.Items id).1 l=some ⟨m.Alphas,m.Rules.set at_.toNat ⟨(nw s.Items m.Alphas (aF s.Items id).1 id r c row).Levels⟩⟩:=by
 have z:=ok.ne
 have A:=ok.ll
 have F:=n.pl
 have G:=eh r.Pats
 have B:IntKind.i64.wrap ((row.Levels.length:Int) - 1)=((row.Levels.length - 1:Nat):Int):=by
  rw[show ((row.Levels.length:Int) - 1)=((row.Levels.length - 1:Nat):Int) by omega]
  exact wr OV OV
 have o:row.Levels.length - 1 < row.Levels.length:=by omega
 have d:row.Levels[row.Levels.length - 1]?=some row.Levels[row.Levels.length - 1]:=gx o
 have hlen:(row.Levels[row.Levels.length - 1]).Toks.length≤4294967296:=y4 ok.fit _ (hG.2 ⟨_,hK o,rfl⟩)
 have C:=Ca (M:=jS s.Items (pos r.Pats) (neg r.Pats) (aF s.Items id).1 1 (row.Levels[row.Levels.length - 1]).Toks) d (xp _)
 unfold ov
 rw[v,fI,B,ag o,fI,Ic p r s n _ 1 (Or.inl rfl) _ hlen (fun t g=>⟨by have:=ok.ids _ _ d t g;omega,ok.hit _ d t g,w _ d t g⟩),fI,hQ]
 have h1:=Fq p r s n c m at_ id l row A z q (qG m.Alphas c) ok.al
  (fun k hk=>by
   obtain⟨a,i,b,h1,h,D,E⟩:=y k hk
   exact⟨a,i,b,h1,h,ub h1 h,D,E⟩)
  (row.Levels.set (row.Levels.length - 1) ⟨jS s.Items (pos r.Pats) (neg r.Pats) (aF s.Items id).1 1 (row.Levels[row.Levels.length - 1]).Toks⟩) N [] [] [] (by rw[qo];omega) OW (fun e=>absurd rfl e) (fun _=>⟨rfl,rfl⟩) OW OW
  (fun i L j t g=>by
   rw[gm,ho,K2]
   rw[K3] at j
   split at j
   ·rename_i e;subst e
    ·simp only[Option.some.injEq] at j
     subst j
     have h1:=rC (xs:=s.Items) (ps:=pos r.Pats) (ns:=neg r.Pats) (f:=(aF s.Items id).1) (b:=1) (row.Levels[row.Levels.length - 1]).Toks
     have h:t.Ids∈(row.Levels[row.Levels.length - 1]).Toks.map (·.Ids):=by rw[← h1];exact hG.2 ⟨t,g,rfl⟩
     obtain⟨u,hu,e⟩:=hG.1 h
     rw[← e];exact ok.ids _ _ d u hu
   ·exact ok.ids i L j t g)
  OW (by rw[C];exact ok.fit)
 simp only[hz,gm,l4] at h1
 have h:bF N r c m at_ s id l row N (row.Levels.set (row.Levels.length - 1) ⟨jS s.Items (pos r.Pats) (neg r.Pats) (aF s.Items id).1 1 (row.Levels[row.Levels.length - 1]).Toks⟩) [] 0=_:=h1
 rw[h]
 unfold nw cZ
 rw[d]
theorem Fx {N:Nat} (y:1099000000000≤N) (d:bf) (n:bH) (s:ae) (id:Int) (b:Bool) (as:List bk) (v:List Bool) (z:d.Rules.length≤1048576) :
  ∀ (ws:List aH) (f:List ah) (cs:List aG) (k:Nat) (g:List ah) (h:List aG) (e:List aH),ws.length < k→d.Rules=g++f→n.Chains=h++cs→g.length=e.length→h.length=e.length→f.length=ws.length→cs.length=ws.length →
   (∀ (i:Nat) (r:ah) (c:aG) (w:aH),f[i]?=some r→cs[i]?=some c→ws[i]?=some w→SzS r s∧(pos r.Pats).length=ao r.Pats∧Dn as r c w∧(∀ L,w.Levels[w.Levels.length - 1]?=some L→∀ t∈L.Toks,∀ x∈t.Hits,InR x) ∧
    ∀ k,k < w.Levels.length→∃ a i b,idx c.Pos (k:Int)=some a∧idx as a=some i∧idx v a=some b∧(b=false→∀ row:List Int,row.length=k→lI s.Items (pos r.Pats) row id=[])) →
   gY N d n s id ((aF s.Items id).1,b) as v k (e++ws) (e.length:Int)=some ⟨as,e++oL (nw s.Items as (aF s.Items id).1 id) f cs ws⟩
 | [],f,cs,k,g,h,e,hk,h1,o,l,p,m,q,u=>by
  obtain⟨k,rfl⟩:∃ j,k=j+1:=⟨k - 1,by simp at hk;omega⟩
  have A:f=[]:=oj.1 m
  subst A
  have c1:decide ((e.length:Int) < (d.Rules.length:Int))=false:=decide_eq_false (by rw[h1,← l];simp)
  simp only[gY,c1,gb,if_false,oL]
 | w :: ws,[],cs,k,g,h,e,hk,h1,o,l,p,m,q,u=>by simp at m
 | w :: ws,r :: f,[],k,g,h,e,hk,h1,o,l,p,m,q,u=>by simp at q
 | w :: ws,r :: f,c :: cs,k,g,h,e,hk,h1,o,l,p,m,q,u=>by
  obtain⟨k,rfl⟩:∃ j,k=j+1:=⟨k - 1,OV⟩
  simp only[gj] at hk m q
  have O:d.Rules.length=e.length+(f.length+1):=by rw[h1,← l];simp
  have c1:decide ((e.length:Int) < (d.Rules.length:Int))=true:=decide_eq_true OV
  obtain⟨B,C,D,E,F⟩:=u 0 r c w rfl rfl rfl
  have G:idx d.Rules (e.length:Int)=some r:=by rw[h1,← l];exact du _ _ _
  have H:idx n.Chains (e.length:Int)=some c:=by rw[o,← p];exact du _ _ _
  simp only[gY,c1,if_true,fI,G,H]
  rw[LN y r c ⟨as,e++w :: ws⟩ (e.length:Int) s id v w B C (du _ _ _) D E F]
  simp only[fI,hQ,jd,wr1 e.length OV]
  have:=Fx y d n s id b as v z ws f cs k (g++[r]) (h++[c]) (e++[⟨(nw s.Items as (aF s.Items id).1 id r c w).Levels⟩]) OV (by rw[h1];simp) (by rw[o];simp) (by simp[l]) (by simp[p]) OV OV
   (fun i I K w' M a2 a3=>u (i+1) I K w' (by simpa using M) (by simpa using a2) (by simpa using a3))
  simp only[gk,gj,gm,ho] at this
  rw[this,gi]
  rfl
theorem FW {N:Nat} (p:1099000000000≤N) (d:bf) (n:bH) (m:aJ) (s:ae) (id:Int) (f:aL × Bool) (q:∀ a∈n.Alphas,a.At.length≤1048576) (t:n.Alphas.length≤1048576) (r:f.1.Fields.length≤1048576) :
  ∀ (as:List ax) (k:Nat) (b:List ax) (c is:List bk),as.length < k→n.Alphas=b++as→c.length=b.length→is.length=as.length→(∀ i∈is,i.L.length+1≤4294967296) →
   fV N d n m s id f k (c++is) (b.map fun a=>dK a f.1) (b.length:Int)=gY N d n s id f (c++cS f.1 id as is) (n.Alphas.map fun a=>dK a f.1) N m.Rules 0
 | [],k,b,c,is,hk,h1,g,l,o=>by
  obtain⟨k,rfl⟩:∃ j,k=j+1:=⟨k - 1,by simp at hk;omega⟩
  have c1:decide ((b.length:Int) < (n.Alphas.length:Int))=false:=decide_eq_false (by rw[h1];simp)
  have e:n.Alphas=b:=by rw[h1];simp
  simp only[fV,c1,gb,if_false,cS]
  rw[e]
 | a :: as,k,b,c,[],hk,h1,g,l,o=>by simp at l
 | a :: as,k,b,c,i :: is,hk,h1,g,l,o=>by
  obtain⟨k,rfl⟩:∃ j,k=j+1:=⟨k - 1,OV⟩
  simp only[gj] at hk l
  have B:n.Alphas.length=b.length+(as.length+1):=by rw[h1];simp
  have c1:decide ((b.length:Int) < (n.Alphas.length:Int))=true:=decide_eq_true OV
  have u:idx n.Alphas (b.length:Int)=some a:=by rw[h1];exact du _ _ _
  have v:idx (c++i :: is) (b.length:Int)=some i:=by rw[← g];exact du _ _ _
  have w:a∈n.Alphas:=by rw[h1];simp
  have x:=o i OW
  have h:=fun y=>FW p d n m s id f q t r as k (b++[a]) (c++[y]) is OV (by rw[h1];simp) (by simp[g]) OV (fun j z=>o j (by simp[z]))
  simp only[gk,gj,gm,ho,gi,hS,hz,rs,hL,rr] at h
  simp only[fV,c1,if_true,u,fI,ID p a f.1 (q a w) r,wr1 b.length OV,cS,bV (show (b.map fun a=>dK a f.1).length+[dK a f.1].length≤4294967296 by simp;omega)]
  cases hp:dK a f.1 with
  | true=>
   rw[hp] at h
   simp only[if_true,v,fI,bV (show i.L.length+[id].length≤4294967296 by simpa using x)]
   have A:(c++i :: is).set ((b.length:Int)).toNat (⟨i.L++[id]⟩:bk)=c++⟨i.L++[id]⟩ :: is:=by
    rw[hQ,← g,jd,gi];rfl
   rw[A]
   exact h _
  | false=>
   rw[hp] at h
   simp only[gb,if_false]
   exact h i
theorem qP {f:aL} {id:Int}:∀ (as:List ax) (is:List bk),(cS f id as is).length=is.length
 | [],is=>by simp[cS]
 | a :: as,[]=>by simp[cS]
 | a :: as,i :: is=>by simp[cS,qP as is]
structure Hj (d:bf) (n:bH) (m:aJ) (s:ae) (id:Int):Prop where
 ok:KZ d n m s id
 ats:Ats n.Alphas n.Chains d.Rules
 rows:∀ (i:Nat) (r:ah) (w:aH),d.Rules[i]?=some r→m.Rules[i]?=some w→SzS r s∧(pos r.Pats).length=ao r.Pats∧∀ L,w.Levels[w.Levels.length - 1]?=some L→∀ t∈L.Toks,∀ x∈t.Hits,InR x
theorem Ni {N:Nat} (b:1099000000000≤N) (d:bf) (n:bH) (m:aJ) (s:ae) (id:Int) (h:Hj d n m s id):pS N d n m s id=some (xf d n m s id):=by
 have H:=h.ok.al
 have I:=h.ok.rl
 have K:=h.ok.ld
 have p:=h.ok.la
 unfold pS
 rw[zI b s id h.ok.sl h.ok.fl,fI]
 have h1:=FW b d n m s id (aF s.Items id) h.ok.at_ h.ok.al (Dx h.ok.fl id) n.Alphas N [] [] m.Alphas OV rfl rfl h.ok.la h.ok.il
 simp only[hz,gm,l4,rr] at h1
 have t:fV N d n m s id (aF s.Items id) N m.Alphas [] 0=_:=h1
 rw[t]
 have j:=Fx b d n s id (aF s.Items id).2 (cS (aF s.Items id).1 id n.Alphas m.Alphas) (n.Alphas.map fun a=>dK a (aF s.Items id).1) OV m.Rules d.Rules n.Chains N [] [] [] OV rfl rfl rfl rfl h.ok.ld h.ok.lc
  (fun i r c w g1 g2 g3=>by
   obtain⟨L,l⟩:=h.ok.rows i r c w g1 g2 g3
   obtain⟨u,v,x⟩:=h.rows i r w g1 g3
   refine⟨u,v,l,x,fun k hk=>?_⟩
   obtain⟨y,z⟩:=gI.1 g1
   obtain⟨A,B⟩:=gI.1 g2
   have f:=(h.ats.get i A y).1
   rw[B,z] at f
   have g:k < (pos r.Pats).length:=by rw[← l.ll];exact hk
   have o:k < c.Pos.length:=by rw[f.len];exact g
   have C:=f.get k o g
   obtain⟨a0,M,e⟩:=a8 C
   have D:c.Pos[k].toNat < (cS (aF s.Items id).1 id n.Alphas m.Alphas).length:=by
    rw[qP,p]
    obtain⟨q,_⟩:=gI.1 e
    exact q
   have E:c.Pos[k]=((c.Pos[k].toNat:Nat):Int):=by omega
   refine⟨c.Pos[k],_,dK (aX (pos r.Pats)[k]) (aF s.Items id).1,ag o,by rw[E];exact ag D,?_,fun F row G=>?_⟩
   ·have:(n.Alphas.map fun a=>dK a (aF s.Items id).1)[c.Pos[k].toNat]?=some (dK (aX (pos r.Pats)[k]) (aF s.Items id).1):=by
     rw[nn,e];rfl
    unfold idx
    rw[if_pos a0]
    exact this
   ·exact Gu (by rw[G];exact gx g) F)
 simp only[hz,gm,l4] at j
 exact j
def GD (ps ns:List az) (i:Nat) (t:an):Prop:=t.Ids.length=i+1∧t.Hits.length≤ns.length∧(i+1=ps.length→t.Hits.length=ns.length∧∀ x∈t.Hits,InR x)
def LA (ps ns:List az) (j i:Nat) (L:ar):Prop:=L.Toks.length≤j*100 ^ i∧∀ t∈L.Toks,GD ps ns i t
def DC (r:ah) (j:Nat) (w:aH):Prop:=w.Levels.length=(pos r.Pats).length∧∀ i L,w.Levels[i]?=some L→LA (pos r.Pats) (neg r.Pats) j i L
theorem Gf {xs:List ak} {ps ns:List az} {row:List Int} {id:Int} (c:xs.length≤1048576):∀ t∈oF xs ps ns row id,GD ps ns row.length t:=by
 intro t a
 unfold oF at a
 split at a
 ·simp only[j3] at a
  subst a
  refine⟨OW,?_,fun e=>?_⟩
  ·simp only
   split
   ·simp[eT]
   ·simp
  ·simp only[e,if_true]
   refine⟨by simp[eT],fun x b=>?_⟩
   unfold eT at b
   obtain⟨p,_,rfl⟩:=hG.1 b
   have:=vR p (okB xs ps (row++[id])).1 xs
   exact wr OV OV
 ·cases a
theorem wR {xs:List ak} {ps ns:List az} {row ids:List Int} (b:xs.length≤1048576):∀ t∈gL xs ps ns row ids,GD ps ns row.length t:=by
 intro t a
 unfold gL at a
 obtain⟨v,_,h⟩:=jf.1 a
 exact Gf b t h
theorem B5 {xs:List ak} {ps ns:List az} {id:Int} {k:Nat} {B F:List an} {A:List Int} (b:xs.length≤1048576) (c:∀ t∈B,t.Ids.length=k) (d:∀ t∈F,t.Ids.length=k):∀ t∈jp xs ps ns id k B F A,GD ps ns k t:=by
 intro t a
 unfold jp at a
 split at a
 ·rename_i e
  subst e
  exact wR b t a
 ·rcases gf.1 a with a | a
  ·obtain⟨u,hu,h⟩:=jf.1 a
   have:=wR b t h
   rwa [c u hu] at this
  ·obtain⟨u,hu,h⟩:=jf.1 a
   have:=wR b t h
   rwa [d u hu] at this
theorem CL {j k b f a:Nat} (d:j≤40) (g:a≤41) (h:k≠0→b≤j*100 ^ (k - 1)∧f≤100 ^ (k - 1)):(if k=0 then 1 else b+f*a)≤100 ^ k:=by
 split
 ·rename_i e;subst e;exact hA _
 ·rename_i e
  obtain⟨k,rfl⟩:∃ m,k=m+1:=⟨k - 1,OV⟩
  obtain⟨h1,c⟩:=h e
  simp only[y3] at h1 c
  have i:f*a≤100 ^ k*41:=P2 c g
  have l:j*100 ^ k≤40*100 ^ k:=Nat.mul_le_mul_right _ d
  rw[Nat.pow_succ]
  omega
theorem B7 {xs:List ak} {ps ns:List az} {id:Int} {A:Nat→List Int} {j:Nat} (c:j≤40) (d:∀ k,(A k).length≤41) (e:xs.length≤1048576):∀ (ls:List ar) (k:Nat) (B F:List an),(k≠0→B.length≤j*100 ^ (k - 1)∧F.length≤100 ^ (k - 1))→(∀ t∈B,t.Ids.length=k)→(∀ t∈F,t.Ids.length=k) →
  (∀ i L,ls[i]?=some L→LA ps ns j (k+i) L)→(lS xs ps ns id A k ls B F).length=ls.length∧∀ i L,(lS xs ps ns id A k ls B F)[i]?=some L→LA ps ns (j+1) (k+i) L
 | [],k,B,F,h1,f,g,a=>⟨rfl,fun i L h=>by simp[lS] at h⟩
 | M :: Ls,k,B,F,h1,f,g,a=>by
  have hm:=l3 (xj xs ps ns id k B F (A k)) (CL c (d k) h1)
  have l:=B5 (xs:=xs) (ps:=ps) (ns:=ns) (id:=id) (A:=A k) e f g
  have o:=a 0 M rfl
  obtain⟨m,b⟩:=o
  simp only[jt] at m b
  have n:=B7 (xs:=xs) (ps:=ps) (ns:=ns) (id:=id) (A:=A) c d e Ls (k+1) M.Toks (jp xs ps ns id k B F (A k)) (fun _=>⟨by simpa using m,by simpa using hm⟩) (fun t h=>(b t h).1) (fun t h=>(l t h).1) (fun i L h=>by
   have:=a (i+1) L (by simpa using h)
   rwa [show k+(i+1)=k+1+i by omega] at this)
  unfold lS
  refine⟨by simp[n.1],fun i L h=>?_⟩
  cases i with
  | zero=>
   simp only[K4,Option.some.injEq] at h
   subst h
   refine⟨?_,fun t h=>?_⟩
   ·simp only[gk,jt,hE];omega
   ·rcases gf.1 h with h | h
    ·exact b t h
    ·exact l t h
  | succ i=>
   have:=n.2 i L (by simpa using h)
   rwa [show k+1+i=k+(i+1) by omega] at this
theorem K7 (n:Int):InR (IntKind.i64.wrap n):=by
 have a:(2:Int) ^ 64=18446744073709551616:=by decide
 have b:(2:Int) ^ (64 - 1)=9223372036854775808:=by decide
 unfold InR
 apply wr
 ·simp only[IntKind.wrap,IntKind.bits,IntKind.signed,a,b,hZ,decide_eq_true_eq]
  split<;>omega
 ·simp only[IntKind.wrap,IntKind.bits,IntKind.signed,a,b,hZ,decide_eq_true_eq]
  split<;>omega
theorem C8 {f:aL} {l:List aw} {b:Int}:∀ (ns:List az) (h:List Int),(∀ x∈h,InR x)→∀ x∈kC f l b ns h,InR x
 | p :: ns,y :: h,c,x,a=>by
  unfold kC at a
  rcases hV.1 a with rfl | a
  ·split
   ·exact K7 _
   ·exact c y OW
  ·exact C8 ns h (fun z d=>c z (by simp[d])) x a
 | [],h,c,x,a=>by
  have:kC f l b [] h=h:=by cases h<;>rfl
  rw[this] at a;exact c x a
 | p :: ns,[],c,x,a=>by simp[kC] at a
theorem GW {xs:List ak} {ps ns:List az} {f:aL} {b:Int} {i:Nat} {c:List an} (h:∀ t∈c,GD ps ns i t):∀ t∈jS xs ps ns f b c,GD ps ns i t:=by
 intro t d
 unfold jS at d
 obtain⟨u,hu,rfl⟩:=hG.1 d
 obtain⟨h1,g,a⟩:=h u hu
 split
 ·exact⟨h1,by simp only[xc];exact g,fun e=>⟨by simp only[xc];exact (a e).1,C8 _ _ (a e).2⟩⟩
 ·exact⟨h1,g,a⟩
theorem vV {xs:List ak} {r:ah} {f:aL} {b:Int} {j:Nat} {w:aH} (h:DC r j w):DC r j (cZ xs (pos r.Pats) (neg r.Pats) f b w):=by
 obtain⟨h1,d⟩:=h
 unfold cZ
 split
 ·rename_i L g
  refine⟨by simpa using h1,fun i M c=>?_⟩
  simp only at c
  rw[K3] at c
  split at c
  ·rename_i e
   split at c
   ·simp only[Option.some.injEq] at c
    subst c
    subst e
    obtain⟨a,b⟩:=d _ L g
    exact⟨by simpa[xp] using a,GW b⟩
   ·cases c
  ·exact d i M c
 ·exact⟨h1,d⟩
theorem yN {as:List bk} {B:Nat} (h:∀ i∈as,i.L.length≤B) (c:aG) (k:Nat):(qG as c k).length≤B:=by
 unfold qG
 split
 ·split
  ·rename_i i a
   obtain⟨_,_,e⟩:=a8 a
   exact h i (mx e)
  ·simp
 ·simp
theorem Gk {xs:List ak} {as:List bk} {f:aL} {id:Int} {r:ah} {c:aG} {j:Nat} {w:aH} (a:j≤40) (d:∀ i∈as,i.L.length≤41) (g:xs.length≤1048576) (h:DC r j w):DC r (j+1) (nw xs as f id r c w):=by
 obtain⟨h1,k⟩:=vV (xs:=xs) (f:=f) (b:=1) h
 have:=B7 (xs:=xs) (ps:=pos r.Pats) (ns:=neg r.Pats) (id:=id) (A:=qG as c) a (yN d c) g (cZ xs (pos r.Pats) (neg r.Pats) f 1 w).Levels 0 [] [] (fun e=>absurd rfl e) OW OW (fun i L h=>by rw[ho];exact k i L h)
 unfold nw
 exact⟨by rw[this.1];exact h1,fun i L h=>by have:=this.2 i L h;rwa [ho] at this⟩
theorem FB {A:Nat→Nat} {j:Nat} (a:j≤40) (d:∀ k,A k≤41):∀ (ls:List Nat) (k b f:Nat),(k≠0→b≤j*100 ^ (k - 1)∧f≤100 ^ (k - 1))→(∀ i l,ls[i]?=some l→l≤j*100 ^ (k+i))→k+ls.length≤4→wg A k ls b f
 | [],k,b,f,h1,c,e=>trivial
 | l :: ls,k,b,f,h1,c,e=>by
  simp only[gj] at e
  have hm:=CL a (d k) h1
  have g:=c 0 l rfl
  rw[jt] at g
  have hp:100 ^ k≤1000000:=by
   have:100 ^ k≤100 ^ 3:=Nat.pow_le_pow_right OV OV
   simpa using this
  have m:j*100 ^ k≤40*1000000:=P2 a hp
  refine⟨OV,FB a d ls (k+1) l _ (fun _=>⟨by simpa using g,by simpa using hm⟩) (fun i l' h=>?_) OV⟩
  have:=c (i+1) l' (by simpa using h)
  rwa [show k+(i+1)=k+1+i by omega] at this
theorem sv {g:ah→aG→aH→aH}:∀ (d:List ah) (cs:List aG) (ws:List aH),d.length=ws.length→cs.length=ws.length→(oL g d cs ws).length=ws.length∧∀ (i:Nat) (v:aH),(oL g d cs ws)[i]?=some v→∃ (r:ah) (c:aG) (w:aH),d[i]?=some r∧cs[i]?=some c∧ws[i]?=some w∧v=g r c w
 | [],cs,[],_,_=>⟨by simp[oL],fun i v h=>by simp[oL] at h⟩
 | r :: d,[],w :: ws,_,h=>by simp at h
 | r :: d,c :: cs,w :: ws,h1,f=>by
  have e:=sv (g:=g) d cs ws (by simpa using h1) (by simpa using f)
  unfold oL
  refine⟨by simp[e.1],fun i v h=>?_⟩
  cases i with
  | zero=>exact⟨r,c,w,rfl,rfl,rfl,by simpa using h.symm⟩
  | succ i=>
   obtain⟨a,b,j,k,l,m,n⟩:=e.2 i v (by simpa using h)
   exact⟨a,b,j,by simpa using k,by simpa using l,by simpa using m,n⟩
theorem tV {f:aL} {id:Int} {B:Nat}:∀ (as:List ax) (is:List bk),(∀ i∈is,i.L.length≤B)→∀ i∈cS f id as is,i.L.length≤B+1
 | [],is,h,i,b=>by
  have:cS f id [] is=is:=by cases is<;>rfl
  rw[this] at b
  have:=h i b;omega
 | a :: as,[],h,i,b=>by simp[cS] at b
 | a :: as,y :: is,h,i,b=>by
  unfold cS at b
  rcases hV.1 b with rfl | b
  ·have:=h y OW
   split
   ·simpa using this
   ·omega
  ·exact tV as is (fun z c=>h z (by simp[c])) i b
structure m3 (d:bf) (n:bH) (j:Nat) (m:aJ):Prop where
 la:m.Alphas.length=n.Alphas.length
 lr:m.Rules.length=d.Rules.length
 al:∀ i∈m.Alphas,i.L.length≤j
 rows:∀ (i:Nat) (r:ah) (w:aH),d.Rules[i]?=some r→m.Rules[i]?=some w→DC r j w
theorem tD {d:bf} {n:bH} {m:aJ} {s:ae} {id:Int} {j:Nat} (k:j≤40) (l:s.Items.length≤1048576) (o:n.Chains.length=d.Rules.length) (h:m3 d n j m):m3 d n (j+1) (xf d n m s id):=by
 have h1:=tV (f:=(aF s.Items id).1) (id:=id) n.Alphas m.Alphas h.al
 have a:=sv (g:=nw s.Items (cS (aF s.Items id).1 id n.Alphas m.Alphas) (aF s.Items id).1 id) d.Rules n.Chains m.Rules h.lr.symm (by rw[o,h.lr])
 refine⟨?_,?_,h1,?_⟩
 ·show (cS _ _ _ _).length=_
  rw[qP];exact h.la
 ·show (oL _ _ _ _).length=_
  rw[a.1];exact h.lr
 ·intro i r v b p
  obtain⟨t,c,w,e,a2,a3,rfl⟩:=a.2 i v p
  rw[b] at e
  cases e
  exact Gk k (fun y q=>by have:=h1 y q;omega) l (h.rows i r w b a3)
theorem ym {d:bf} {n:bH} (h:Ats n.Alphas n.Chains d.Rules):m3 d n 0 (lM n):=by
 unfold lM
 refine⟨OW,by simp[h.len],fun i a=>?_,fun i r w l f=>?_⟩
 ·rw[(List.mem_replicate.1 a).2];simp
 ·simp only[nn,w2] at f
  obtain⟨c,b,rfl⟩:=f
  obtain⟨a,m⟩:=gI.1 l
  obtain⟨o,b⟩:=gI.1 b
  have g:=(h.get i o a).1
  rw[b,m] at g
  refine⟨by simp only[rO,List.length_replicate];exact g.len,fun k L j=>?_⟩
  simp only[rO] at j
  obtain⟨_,e⟩:=gI.1 j
  rw[Pe] at e
  subst e
  exact⟨OW,OW⟩
theorem vX {d:bf} {m:aJ} {s:ae} {id:Int} {j:Nat} (C:iq d=true) (D:pA d) (hs:s.Items.length≤40) (E:∀ x∈s.Items,x.F.Fields.length≤1048576) (Q:j≤40) (h:m3 d (bB d) j m):Hj d (bB d) m s id:=by
 have F:=jh C
 obtain⟨_,v,af⟩:=oH F
 obtain⟨⟨R,z2⟩,z3,z4⟩:=rA F
 have S:=tV (f:=(aF s.Items id).1) (id:=id) (bB d).Alphas m.Alphas h.al
 have G:∀ i∈cS (aF s.Items id).1 id (bB d).Alphas m.Alphas,i.L.length≤41:=fun i g=>by have:=S i g;omega
 have T:d.Rules.length≤1048576:=D.2.1
 have n:∀ r∈d.Rules,r.Pats.length≤6∧1≤(pos r.Pats).length∧(pos r.Pats).length≤3∧(pos r.Pats).length=ao r.Pats∧pos r.Pats=r.Pats.take (ao r.Pats)∧dE r.Pats≤1048576∧∀ p∈r.Pats,p.Args.length≤1048576:=fun r n=>by
  have y:=kX C r n
  have hp:iy r.Pats=true:=by
   unfold ja at y
   simp only[ha] at y
   exact y.2.2.1
  have U:=tY hp
  have V:(pos r.Pats).length=ao r.Pats:=qh r.Pats
  unfold iy at hp
  simp only[ha,decide_eq_true_eq] at hp
  obtain⟨⟨_,W⟩,⟨p2,p3⟩,_⟩:=hp
  obtain⟨_,⟨_,g1⟩,_,_,g2,_⟩:=D.2.2 r n
  exact⟨W,OV,OV,V,U,g2,fun p hp=>(g1 p hp).2.1⟩
 have H:∀ (i:Nat) (r:ah),d.Rules[i]?=some r→r∈d.Rules:=fun i r e=>mx e
 refine⟨⟨OV,E,fun a X=>(z2 a X).2,R,by rw[h.lr];exact T,h.la,by rw[v.len,h.lr],h.lr.symm,fun i g=>by have:=h.al i g;omega,fun i r c w g1 g2 g3=>?_⟩,v,fun i r w g1 g3=>?_⟩
 ·obtain⟨Y,Z,q3,I,K,z,A⟩:=n r (H i r g1)
  obtain⟨M,o⟩:=h.rows i r w g1 g3
  refine⟨⟨OV,z,A⟩,⟨OV,M,fun i L b t u=>((o i L b).2 t u).1,fun L b t u=>(((o _ L b).2 t u).2.2 OV).1,fun k hk=>?_,?_,fun k=>by have:=yN G c k;omega⟩⟩
  ·obtain⟨g,a6⟩:=gI.1 g1
   obtain⟨a7,aa⟩:=gI.1 g2
   have B:=(v.get i a7 g).1
   rw[aa,a6] at B
   have N:k < (pos r.Pats).length:=by omega
   have O:k < c.Pos.length:=by rw[B.len];exact N
   have e1:=B.get k O N
   obtain⟨a0,a1,e⟩:=a8 e1
   obtain⟨q,_⟩:=gI.1 e
   have ab:c.Pos[k].toNat < (cS (aF s.Items id).1 id (bB d).Alphas m.Alphas).length:=by rw[qP,h.la];exact q
   have ad:c.Pos[k]=((c.Pos[k].toNat:Nat):Int):=by omega
   exact⟨c.Pos[k],_,ag O,by rw[ad];exact ag ab⟩
  ·refine FB Q (yN G c) _ 0 0 0 (fun e=>absurd rfl e) (fun i l P=>?_) (by simp;omega)
   rw[nn,w2] at P
   obtain⟨L,b,rfl⟩:=P
   rw[ho]
   exact (o i L b).1
 ·obtain⟨Y,Z,q3,I,K,z,A⟩:=n r (H i r g1)
  obtain⟨M,o⟩:=h.rows i r w g1 g3
  exact⟨⟨OV,z,A,OV,E,K⟩,I,fun L b t u=>(((o _ L b).2 t u).2.2 OV).2⟩
theorem Kd {N:Nat} (p:bH) (b:List aH) (a:Nat) (K:List aH→Int→Option aJ) (c:a < p.Chains.length) (f:p.Chains[a].Pos.length≤1048576) (g:b.length≤a) (j:p.Chains.length≤1048576):∀ (n i:Nat),i≤p.Chains[a].Pos.length→p.Chains[a].Pos.length - i < n →
  kj N p b a K n (List.replicate i ⟨[]⟩) i=K (b++[rO p.Chains[a]]) ((a+1:Nat):Int):=by
 intro n
 induction n with
 | zero=>intro i _ h;omega
 | succ n d=>
  intro i k l
  simp only[kj,ag c,fI]
  by_cases m:i < p.Chains[a].Pos.length
  ·have c1:decide ((i:Int) < (p.Chains[a].Pos.length:Int))=true:=decide_eq_true OV
   simp only[c1,if_true,bV (show (List.replicate i (⟨[]⟩:ar)).length+[(⟨[]⟩:ar)].length≤4294967296 by simp;omega),fI,wr1 i OV]
   have:=d (i+1) OV OV
   rw[Pf] at this
   exact this
  ·have c1:decide ((i:Int) < (p.Chains[a].Pos.length:Int))=false:=decide_eq_false OV
   have e:i=p.Chains[a].Pos.length:=by omega
   simp only[c1,gb,if_false,bV (show b.length+[(⟨List.replicate i ⟨[]⟩⟩:aH)].length≤4294967296 by simp;omega),fI,wr1 a OV]
   rw[e];rfl
theorem JE {N:Nat} (g:1099000000000≤N) (p:bH) (as:List bk) (d:p.Chains.length≤1048576) (hp:∀ c∈p.Chains,c.Pos.length≤1048576):∀ (n i:Nat),i≤p.Chains.length→p.Chains.length - i < n →
  fM N p as n ((p.Chains.take i).map rO) i=some ⟨as,p.Chains.map rO⟩:=by
 intro n
 induction n with
 | zero=>intro i _ h;omega
 | succ n e=>
  intro i j k
  simp only[fM]
  by_cases a:i < p.Chains.length
  ·have c1:decide ((i:Int) < (p.Chains.length:Int))=true:=decide_eq_true OV
   have hm:=hp _ (hK a)
   have:=Kd (N:=N) p ((p.Chains.take i).map rO) i (fM N p as n) a hm (by simp;omega) d N 0 OV OV
   have b:=e (i+1) OV OV
   have f:(p.Chains.take (i+1)).map rO=(p.Chains.take i).map rO++[rO p.Chains[i]]:=by
    rw[Pg a,rs];rfl
   rw[f] at b
   simp only[c1,if_true];rw[← b];exact this
  ·have c1:decide ((i:Int) < (p.Chains.length:Int))=false:=decide_eq_false OV
   simp only[c1,gb,if_false]
   rw[P3 OV]
theorem Kr {N:Nat} (p:bH) (c:p.Alphas.length≤1048576):∀ (n i:Nat),i≤p.Alphas.length→p.Alphas.length - i < n →
  jZ N p n (List.replicate i ⟨[]⟩) i=fM N p (List.replicate p.Alphas.length ⟨[]⟩) N [] 0:=by
 intro n
 induction n with
 | zero=>intro i _ h;omega
 | succ n a=>
  intro i d e
  simp only[jZ]
  by_cases f:i < p.Alphas.length
  ·have c1:decide ((i:Int) < (p.Alphas.length:Int))=true:=decide_eq_true OV
   simp only[c1,if_true,bV (show (List.replicate i (⟨[]⟩:bk)).length+[(⟨[]⟩:bk)].length≤4294967296 by simp;omega),fI,wr1 i OV]
   have:=a (i+1) OV OV
   rw[Pf] at this
   exact this
  ·have c1:decide ((i:Int) < (p.Alphas.length:Int))=false:=decide_eq_false OV
   have b:i=p.Alphas.length:=by omega
   simp only[c1,gb,if_false]
   rw[b]
theorem HX {N:Nat} (d:1099000000000≤N) (p:bH) (e:p.Alphas.length≤1048576) (f:p.Chains.length≤1048576) (hp:∀ c∈p.Chains,c.Pos.length≤1048576):qD N p=some (lM p):=by
 have a:=Kr (N:=N) p e N 0 OV OV
 have b:=JE d p (List.replicate p.Alphas.length ⟨[]⟩) f hp N 0 OV OV
 unfold qD lM;exact a.trans b
theorem LX {N:Nat} (a:1099000000000≤N) (f:aL) (h:BN f):pY N f=some (wV f):=by
 obtain⟨h1,d,b⟩:=h
 unfold pY wV
 have c:fS N f N 0=some (f.Fields.all uA):=lp0 a f.Fields OV (fS N f) (fun t=>some (t.all uA)) (fun n i x t g1 g2 g3 g4 g5 g6 g7=>by
  simp only[fS,g5,if_true,g4,fI,L7 (show 1048578≤N by omega) x (b x g2),g6,g7,p1]
  cases uA x<;>simp) (fun n i g1 g2=>by simp only[fS,g2,gb,if_false];rfl)
 have d1:decide ((5:Int) < (f.Fields.length:Int)) = !decide (f.Fields.length≤5):=by rw[← decide_not,decide_eq_decide];omega
 simp only[rQ a _ h1,fI,d1,c]
 cases gT f.Kind<;>cases decide (f.Fields.length≤5)<;>simp
theorem Ks {N:Nat} (f:1099000000000≤N) (x y:aL) (g:x.Fields.length≤4294967296):nq N x y=some (decide (x=y)):=by
 have e:cJ N x.Fields y.Fields=some (decide (x.Fields=y.Fields)):=by
  unfold cJ
  by_cases c:x.Fields.length=y.Fields.length
  ·rw[if_neg (by simp;omega)]
   refine (rj (bD N x.Fields y.Fields) x.Fields y.Fields c OV (fun a b=>some (decide (a=b))) (fun a _ b _=>rfl) (fun k i=>by simp only[bD,iG,fI]) N 0 OV OV).trans ?_
   simp
  ·rw[if_pos (by simp;omega)]
   have : ¬ x.Fields=y.Fields:=fun e=>c (by rw[e])
   simp[this]
 unfold nq
 simp only[e,fI,t8,lK]
 obtain⟨a,b⟩:=x;obtain⟨c,d⟩:=y
 simp only[aL.mk.injEq,Bool.decide_and]
theorem Ck {α:Type} {xs:List α} {i:Nat} (h:i≤xs.length):ssl xs 0 (i:Int)=some (xs.take i):=by
 unfold ssl
 have:(0:Int)≤0∧(0:Int)≤(i:Int)∧(i:Int)≤(xs.length:Int):=by omega
 simp[h]
theorem y0 {N:Nat} (b:1099000000000≤N) (s:ae) (h:lE s):jC N s=some (fx s):=by
 obtain⟨h1,f⟩:=h
 unfold jC fx
 have d1:decide ((40:Int) < (s.Items.length:Int)) = !decide (s.Items.length≤40):=by rw[← decide_not,decide_eq_decide];omega
 simp only[in1,fI,d1]
 by_cases c:1≤s.Next∧s.Next≤1000000
 ·have lp:∀ (n i:Nat),i≤s.Items.length→s.Items.length - i < n→dP N s n i=some (o4 s.Next (s.Items.take i) (s.Items.drop i)):=by
   intro n
   induction n with
   | zero=>intro i _ h;omega
   | succ n g=>
    intro i j hm
    simp only[dP]
    by_cases a:i < s.Items.length
    ·have c1:decide ((i:Int) < (s.Items.length:Int))=true:=decide_eq_true OV
     have d:=f _ (hK a)
     have l:IntKind.i64.wrap (s.Next - 1)=s.Next - 1:=wr OV OV
     have o:(if decide (0 < (i:Int))=true then (idx s.Items (IntKind.i64.wrap ((i:Int) - 1))).bind fun p=>some (decide (s.Items[i].Id≤p.Id)) else some false)=some (!(mB (s.Items.take i) s.Items[i].Id)):=by
      by_cases q:0 < i
      ·have r:IntKind.i64.wrap ((i:Int) - 1)=((i - 1:Nat):Int):=by rw[wr OV OV];omega
       unfold mB;rw[HU q j,decide_eq_true (show (0:Int) < (i:Int) by omega),r]
       simp only[if_true,ag (show i - 1 < s.Items.length by omega),fI]
       rw[← decide_not];congr 1;rw[decide_eq_decide];omega
      ·have:i=0:=by omega
       subst this
       simp[mB]
     have u:fe N (i:Int) (dP N s n) s.Items[i] (s.Items.take i) N 0=some ((((s.Items.take i).all fun y=>!decide (s.Items[i].F=y.F))) && o4 s.Next (s.Items.take (i+1)) (s.Items.drop (i+1))):=by
      refine lp0 b (s.Items.take i) (by rw[List.length_take];omega) (fe N (i:Int) (dP N s n) s.Items[i] (s.Items.take i)) (fun t=>some ((t.all fun y=>!decide (s.Items[i].F=y.F)) && o4 s.Next (s.Items.take (i+1)) (s.Items.drop (i+1)))) (fun m k y t g1 g2 g3 g4 g5 g6 g7=>?_) (fun m k g1 g2=>?_)
      ·simp only[fe,g5,if_true,g4,fI,Ks b s.Items[i].F y.F (by have:=d.2.1;omega),g6,g7,p1]
       cases decide (s.Items[i].F=y.F)<;>simp
      ·simp only[fe,g2,gb,if_false,wr1 i OV,g (i+1) OV OV];rfl
     have d2:decide (s.Items[i].Id≤s.Next - 1)=decide (s.Items[i].Id < s.Next):=by rw[decide_eq_decide];omega
     have v:s.Items.take (i+1)=s.Items.take i++[s.Items[i]]:=Pg a
     rw[hy a,o4,← v]
     simp only[c1,if_true,ag a,fI,LX b _ d,in1,l,d2,o,Ck (show i≤s.Items.length by omega),u]
     cases wV s.Items[i].F with
     | false=>simp
     | true=>
      cases (decide (1≤s.Items[i].Id) && decide (s.Items[i].Id < s.Next)) with
      | false=>simp
      | true=>
       cases (mB (s.Items.take i) s.Items[i].Id)<;>simp
    ·have c1:decide ((i:Int) < (s.Items.length:Int))=false:=decide_eq_false OV
     rw[hB OV]
     simp only[c1,gb,if_false];rfl
  have e:=lp N 0 OV OV
  rw[List.take_zero,hY,show ((0:Nat):Int)=0 from rfl] at e
  rw[e,decide_eq_true c.1,decide_eq_true c.2]
  cases decide (s.Items.length≤40)<;>simp
 ·have:(decide (1≤s.Next) && decide (s.Next≤1000000))=false:=by
   rw[Bool.eq_false_iff]
   intro h
   simp only[ha,decide_eq_true_eq] at h
   exact c h
  rw[this]
  cases decide (s.Items.length≤40)<;>simp
theorem MB {N:Nat} (d:1099000000000≤N) (x y:List Int) (f:x.length≤4294967296):oz N x y=some (decide (x=y)):=by
 unfold oz
 by_cases c:x.length=y.length
 ·rw[if_neg (by simp;omega)]
  refine (rj (jl N x y) x y c OV (fun a b=>some (decide (a=b))) (fun a _ b _=>rfl) (fun k i=>rfl) N 0 OV OV).trans ?_
  simp
 ·rw[if_pos (by simp;omega)]
  have : ¬ x=y:=fun e=>c (by rw[e])
  simp[this]
theorem JF {N:Nat} (c:1099000000000≤N) (p:az) (d:p.Args.length≤1048576):oe N p=some (aX p):=by
 have lp:∀ (n i:Nat) (cs:List bP) (as:List Int),i≤p.Args.length→p.Args.length - i < n→cs.length≤i→as.length≤i →
   gg N p n cs as i=some ⟨p.Kind,(p.Args.length:Int),cs++l7 (p.Args.drop i),as++ats i (p.Args.drop i)⟩:=by
  intro n
  induction n with
  | zero=>intro i _ _ _ h;omega
  | succ n a=>
   intro i cs as e f h1 g
   by_cases b:i < p.Args.length
   ·have c1:decide ((i:Int) < (p.Args.length:Int))=true:=decide_eq_true OV
    rw[hy b]
    simp only[gg,c1,if_true,ag b,fI,wr1 i OV,l7,ats]
    by_cases hk:p.Args[i].K=2
    ·simp only[hk,decide_true,if_true,bV (show cs.length+[p.Args[i].V].length≤4294967296 by simp;omega),bV (show as.length+[(i:Int)].length≤4294967296 by simp;omega),fI]
     rw[a (i+1) _ _ OV OV (by simp;omega) (by simp;omega)];simp
    ·simp only[hk,decide_false,gb,if_false]
     exact a (i+1) _ _ OV OV OV OV
   ·have c1:decide ((i:Int) < (p.Args.length:Int))=false:=decide_eq_false OV
    rw[hB OV]
    simp only[gg,c1,gb,if_false,l7,ats,ix]
 have:=lp N 0 [] [] OV OV OW OW
 unfold oe aX
 simpa using this
theorem JB {N:Nat} (m:1099000000000≤N) (x y:ax) (h:lC x):lP N x y=some (decide (x=y)):=by
 unfold lP
 simp only[MB m _ _ (show x.At.length≤4294967296 by have:=h.2;omega),IV m _ _ (show x.Consts.length≤4294967296 by have:=h.1;omega),fI,t8,lK]
 obtain⟨a,b,c,d⟩:=x;obtain⟨e,f,g,k⟩:=y
 congr 1
 rw[Bool.eq_iff_iff]
 simp only[ax.mk.injEq,ha,decide_eq_true_eq]
 constructor
 ·rintro⟨⟨⟨h1,i⟩,j⟩,l⟩;exact⟨h1,i,l,j⟩
 ·rintro⟨h1,i,l,j⟩;exact⟨⟨⟨h1,i⟩,j⟩,l⟩
theorem LZ {N:Nat} (c:1099000000000≤N) (as:List ax) (cs:List aG) (a:ax) (f:as.length≤4194304) (h:∀ a∈as,lC a) :
  om N ⟨as,cs⟩ a=some ((co as a).1,⟨(co as a).2,cs⟩):=by
 unfold om
 have lp:∀ (n i:Nat),i≤as.length→as.length - i < n→ga N ⟨as,cs⟩ a n i =
   some (match (as.drop i).findIdx? (fun x=>decide (x=a)) with | some j=>((i+j:Nat):Int) | none=>(as.length:Int),⟨match (as.drop i).findIdx? (fun x=>decide (x=a)) with | some j=>as | none=>as++[a],cs⟩):=by
  intro n
  induction n with
  | zero=>intro i _ h;omega
  | succ n d=>
   intro i g k
   by_cases b:i < as.length
   ·have c1:decide ((i:Int) < (as.length:Int))=true:=decide_eq_true OV
    rw[hy b,List.findIdx?_cons]
    simp only[ga,c1,if_true,ag b,fI,JB c _ _ (h _ (hK b)),wr1 i OV,d (i+1) OV OV]
    by_cases he:as[i]=a
    ·simp[he]
    ·simp only[he,decide_false,gb,if_false]
     cases (as.drop (i+1)).findIdx? (fun x=>decide (x=a)) with
     | none=>rfl
     | some j=>simp only[Option.map_some];rw[show i+(j+1)=i+1+j by omega]
   ·have c1:decide ((i:Int) < (as.length:Int))=false:=decide_eq_false OV
    rw[hB OV]
    simp only[ga,c1,gb,if_false,bV (show as.length+[a].length≤4294967296 by simp;omega),fI,List.findIdx?_nil]
    have e:IntKind.i64.wrap (((as++[a]).length:Int) - 1)=(as.length:Int):=by
     rw[wr (by simp only[gk,gj,gm];omega) (by simp only[gk,gj,gm];omega)];simp only[gk,gj,gm];omega
    rw[e]
 have:=lp N 0 OV OV
 rw[show ((0:Nat):Int)=0 from rfl,hY] at this
 rw[this]
 unfold co
 cases as.findIdx? (fun x=>decide (x=a))<;>simp
theorem Na {N:Nat} (b:1099000000000≤N) (d:bf) (h:yS d.Rules):pW N d=some (bB d):=by
 obtain⟨h1,v,w⟩:=h
 unfold pW bB
 refine lp' b d.Rules OV (fun n (s:List ax × List aG) i=>eO N d n s.1 s.2 i) (fun t s=>some (ff s.1 s.2 t)) (fun s t=>s.1.length+oG t≤1048576∧s.2.length+t.length≤1048576∧∀ a∈s.1,lC a) ([],[]) ⟨by simpa using v,by simpa using h1,OW⟩ (fun n s i r t g1 g2 g3 g4 g5 g6 g x=>?_) (fun n s i g1 g2 g=>?_)
 ·obtain⟨y,i2,i3⟩:=g
  rw[nE] at y
  simp only[gj] at i2
  simp only[eO,g5,if_true,ff]
  have key:∀ (as:List ax),as.length+r.Pats.length+oG t≤1048576→(∀ a∈as,lC a)→fJ N d s.2 (i:Int) (eO N d n) N as [] [] 0=some (ff (cq as [] [] r.Pats).1 (s.2++[⟨(cq as [] [] r.Pats).2.1,(cq as [] [] r.Pats).2.2⟩]) t):=by
   intro as z A
   refine lp' b r.Pats OV (fun m (u:List ax × List Int × List Int) k=>fJ N d s.2 (i:Int) (eO N d n) m u.1 u.2.1 u.2.2 k) (fun l u=>some (ff (cq u.1 u.2.2 u.2.1 l).1 (s.2++[⟨(cq u.1 u.2.2 u.2.1 l).2.1,(cq u.1 u.2.2 u.2.1 l).2.2⟩]) t))
    (fun u l=>u.1.length+l.length+oG t≤1048576∧u.2.1.length+u.2.2.length+l.length≤1048576∧∀ a∈u.1,lC a) (as,[],[]) ⟨z,by simp;omega,A⟩ (fun m u k p l f1 f2 f3 f4 f5 f6 e j=>?_) (fun m u k f1 f2 e=>?_)
   ·obtain⟨f,o,c⟩:=e
    simp only[gj] at f o
    have hp:=w r g2 p f2
    have B:=(qH u.1 (aX p)).1
    have q:=tu c (vp hp)
    simp only[fJ,g4,f5,if_true,f4,fI,JF b p hp,LZ b u.1 s.2 _ (show u.1.length≤4194304 by omega) c,f6,cq]
    cases C:p.Not with
    | true=>
     simp only[if_true,bV (show u.2.1.length+[(co u.1 (aX p)).1].length≤4294967296 by simp;omega),fI]
     exact j ((co u.1 (aX p)).2,u.2.1++[(co u.1 (aX p)).1],u.2.2) ⟨by simp only;omega,by simp;omega,q⟩
    | false=>
     simp only[gb,if_false,bV (show u.2.2.length+[(co u.1 (aX p)).1].length≤4294967296 by simp;omega),fI]
     exact j ((co u.1 (aX p)).2,u.2.1,u.2.2++[(co u.1 (aX p)).1]) ⟨by simp only;omega,by simp;omega,q⟩
   ·obtain⟨f,o,c⟩:=e
    simp only[fJ,g4,f2,gb,if_false,bV (show s.2.length+[(⟨u.2.2,u.2.1⟩:aG)].length≤4294967296 by simp;omega),fI,g6,cq]
    exact x (u.1,s.2++[⟨u.2.2,u.2.1⟩]) ⟨by simp only[gm] at f ⊢;omega,by simp;omega,c⟩
  exact key s.1 OV i3
 ·simp only[eO,g2,gb,if_false];rfl
def vw (d:bf) (n:bH) (nx:Int):List ak→List ak→aJ→aJ
 | _,[],m=>m
 | done,x :: t,m=>vw d n nx (done++[x]) t (xf d n m ⟨done++[x],nx⟩ x.Id)
theorem J5 {d:bf} {n:bH} {nx:Int} (a:n.Chains.length=d.Rules.length):∀ (rest done:List ak) (m:aJ),done.length+rest.length≤40→m3 d n done.length m→m3 d n (done.length+rest.length) (vw d n nx done rest m)
 | [],done,m,_,h=>h
 | x :: t,done,m,b,h=>by
  simp only[gj] at b
  have h1:=tD (s:=⟨done++[x],nx⟩) (id:=x.Id) OV (by simp;omega) a h
  have:=J5 (nx:=nx) a t (done++[x]) _ (by simp;omega) (by simpa using h1)
  unfold vw
  simpa[K5,K2 1] using this
def cmp (a b:Int):Int:=if a < b then -1 else if b < a then 1 else 0
theorem BQ (N:Nat) (a b:Int):dy N a b=some (cmp a b):=by
 unfold dy jV cmp
 by_cases h1:a < b
 ·simp[h1]
 ·by_cases c:b < a<;>simp[h1,c]
theorem Li {N:Nat} (i:1048578≤N) (a b:Int):gR N [a,b]=some (if a=0 then b else a):=by
 obtain⟨n,rfl⟩:∃ n,N=n+3:=⟨N - 3,OV⟩
 unfold gR
 have d:IntKind.i64.wrap ((0:Int)+1)=1:=by decide
 have e:IntKind.i64.wrap ((1:Int)+1)=2:=by decide
 have i0:idx [a,b] 0=some a:=rfl
 have f:idx [a,b] 1=some b:=rfl
 have g:(([a,b]:List Int).length:Int)=2:=rfl
 simp only[gF,d,e,i0,f,g,fI]
 by_cases c:a=0
 ·by_cases h:b=0<;>simp[c,h]
 ·simp[c]
def mS:List Int→List Int→Int
 | [],[]=>0
 | [],_ :: _=>-1
 | _ :: _,[]=>1
 | a :: x,b :: y=>if a=b then mS x y else if a < b then -1 else 1
theorem yP:∀ x y,mS y x = - mS x y
 | [],[]=>rfl
 | [],_ :: _=>rfl
 | _ :: _,[]=>rfl
 | a :: x,b :: y=>by
  unfold mS
  by_cases h:a=b
  ·rw[if_pos h,if_pos h.symm,yP x y]
  ·rw[if_neg h,if_neg fun e=>h e.symm]
   by_cases c:a < b
   ·rw[if_pos c,if_neg OV];rfl
   ·rw[if_neg c,if_pos OV]
theorem pr:∀ x y,mS x y=0↔x=y
 | [],[]=>by simp[mS]
 | [],_ :: _=>by simp[mS]
 | _ :: _,[]=>by simp[mS]
 | a :: x,b :: y=>by
  unfold mS
  by_cases h:a=b
  ·rw[if_pos h,pr x y,h];simp
  ·rw[if_neg h]
   by_cases c:a < b
   ·rw[if_pos c];simp[h]
   ·rw[if_neg c];simp[h]
theorem BF:∀ x y z,mS x y < 0→mS y z < 0→mS x z < 0
 | [],[],z,h,_=>absurd h (by simp[mS])
 | [],_ :: _,[],_,h=>absurd h (by simp[mS])
 | [],_ :: _,_ :: _,_,_=>by simp[mS]
 | _ :: _,[],_,h,_=>absurd h (by simp[mS])
 | _ :: _,_ :: _,[],_,h=>absurd h (by simp[mS])
 | a :: x,b :: y,d :: z,h1,c=>by
  unfold mS at h1 c ⊢
  by_cases f:a=b
  ·rw[if_pos f] at h1
   subst f
   by_cases e:a=d
   ·rw[if_pos e] at c ⊢
    exact BF x y z h1 c
   ·rw[if_neg e] at c ⊢;exact c
  ·rw[if_neg f] at h1
   have:a < b:=by
    by_cases h:a < b
    ·exact h
    ·rw[if_neg h] at h1;simp at h1
   by_cases e:b=d
   ·subst e
    rw[if_neg f,if_pos this];decide
   ·rw[if_neg e] at c
    have g:b < d:=by
     by_cases h:b < d
     ·exact h
     ·rw[if_neg h] at c;simp at c
    rw[if_neg OV,if_pos OV];decide
def nN {α β:Type} (p:α→β→Bool):List α→List β→Bool
 | [],[]=>true
 | a :: l,b :: m=>p a b && nN p l m
 | _,_=>false
theorem vN {α β:Type} {p:α→β→Bool}:∀ {l:List α} {m:List β},nN p l m=true→l.length=m.length
 | [],[],_=>rfl
 | a :: l,b :: m,h=>by
  simp only[nN,ha] at h
  simp[vN h.2]
 | [],_ :: _,h=>by cases h
 | _ :: _,[],h=>by cases h
theorem lp2 {α β e:Type} (f:Nat→Int→Option e) (a:List α) (b:List β) (k:a.length=b.length) (hm:a.length≤4294967296) (p:α→β→Bool) (K Z:Option e)
  (g:∀ n (i:Nat) (x:α) (y:β),idx a (i:Int)=some x→idx b (i:Int)=some y→x∈a→y∈b→decide ((i:Int) < (a.length:Int))=true→IntKind.i64.wrap ((i:Int)+1)=((i+1:Nat):Int)→f (n+1) i=if p x y=true then f n ((i+1:Nat):Int) else Z)
  (he:∀ n (i:Nat),decide ((i:Int) < (a.length:Int))=false→i=a.length→f (n+1) i=K) :
  ∀ (n i:Nat),i≤a.length→a.length - i < n→f n i=if nN p (a.drop i) (b.drop i)=true then K else Z:=by
 intro n
 induction n with
 | zero=>intro i _ h;omega
 | succ n j=>
  intro i l m
  by_cases c:i < a.length
  ·have d:i < b.length:=by omega
   rw[g n i _ _ (ag c) (ag d) (hK c) (hK d) (decide_eq_true OV) (wr1 i OV),j (i+1) OV OV,hy c,hy d,nN]
   cases p a[i] b[i]<;>simp
  ·rw[he n i (decide_eq_false OV) OV,hB OV,hB OV]
   simp[nN]
theorem EH {N:Nat} (x y:List Int) (hm:x.length≤1099000000000):∀ n i:Nat,i≤x.length→i≤y.length→x.length - i < n→bU N x y n i=some (mS (x.drop i) (y.drop i)):=by
 intro n
 induction n with
 | zero=>intro i _ _ h;omega
 | succ n d=>
  intro i e f g
  simp only[bU]
  by_cases b:i < x.length
  ·have c1:decide ((i:Int) < (x.length:Int))=true:=decide_eq_true OV
   rw[hy b]
   by_cases a:i < y.length
   ·have c2:decide ((y.length:Int)≤(i:Int))=false:=decide_eq_false OV
    rw[hy a,mS]
    simp only[c1,c2,if_true,gb,if_false,ag b,ag a,fI,BQ,wr1 i OV]
    by_cases he:x[i]=y[i]
    ·have c:cmp y[i] y[i]=0:=by unfold cmp;simp
     simp only[c,he,decide_true,hI,gb,if_false,if_true]
     exact d (i+1) OV OV OV
    ·have c:cmp x[i] y[i]≠0:=by unfold cmp;split<;>(try split)<;>omega
     simp only[c,he,decide_false,hW,if_true,if_false]
     unfold cmp
     split
     ·rfl
     ·rw[if_pos OV]
   ·have c2:decide ((y.length:Int)≤(i:Int))=true:=decide_eq_true OV
    rw[hB (show y.length≤i by omega)]
    simp only[c1,c2,if_true,ag b,fI,mS]
  ·have c1:decide ((i:Int) < (x.length:Int))=false:=decide_eq_false OV
   simp only[c1,gb,if_false]
   rw[hB (show x.length≤i by omega)]
   by_cases a:i < y.length
   ·have c2:decide ((x.length:Int) < (y.length:Int))=true:=decide_eq_true OV
    rw[hy a,c2];rfl
   ·have c2:decide ((x.length:Int) < (y.length:Int))=false:=decide_eq_false OV
    rw[hB (show y.length≤i by omega),c2];rfl
def gt (a b:an):Int:=if mS a.Ids b.Ids=0 then mS a.Hits b.Hits else mS a.Ids b.Ids
theorem qJ {a b:an}:gt a b=0↔a=b:=by
 unfold gt
 by_cases h:mS a.Ids b.Ids=0
 ·rw[if_pos h,pr]
  have:=(pr _ _).1 h
  constructor
  ·intro e;cases a;cases b;simp_all
  ·rintro rfl;rfl
 ·rw[if_neg h]
  exact⟨fun e=>absurd e h,fun e=>by rw[e] at h;exact absurd ((pr _ _).2 rfl) h⟩
theorem Em (a b:an):gt b a = - gt a b:=by
 unfold gt
 rw[yP a.Ids b.Ids,yP a.Hits b.Hits]
 by_cases h:mS a.Ids b.Ids=0
 ·rw[if_pos h,if_pos OV]
 ·rw[if_neg h,if_neg OV]
theorem qO:yU gt:=by
 refine⟨fun x=>?_,fun x y z h1 a=>?_,fun x y h1 a=>?_⟩
 ·rw[qJ.2 rfl];decide
 ·unfold gt at h1 a ⊢
  by_cases c:mS x.Ids y.Ids=0
  ·rw[if_pos c] at h1
   have d:=(pr _ _).1 c
   rw[d]
   by_cases b:mS y.Ids z.Ids=0
   ·rw[if_pos b] at a ⊢
    exact BF _ _ _ h1 a
   ·rw[if_neg b] at a ⊢;exact a
  ·rw[if_neg c] at h1
   by_cases b:mS y.Ids z.Ids=0
   ·rw[← (pr _ _).1 b,if_neg c];exact h1
   ·rw[if_neg b] at a
    have:=BF _ _ _ h1 a
    rw[if_neg OV];exact this
 ·rw[Em x y] at a
  exact qJ.1 OV
def CK (t:an):Prop:=t.Ids.length≤4294967296∧t.Hits.length≤4294967296
theorem rb {N:Nat} (e:1099000000000≤N) (a b:an) (c:CK a):d9 N a b=some (gt a b):=by
 unfold d9 dt gt
 have h1:=EH (N:=N) a.Ids b.Ids (by have:=c.1;omega) N 0 OV OV (by have:=c.1;omega)
 have d:=EH (N:=N) a.Hits b.Hits (by have:=c.2;omega) N 0 OV OV (by have:=c.2;omega)
 simp only[hY] at h1 d
 rw[show ((0:Nat):Int)=0 from rfl] at h1 d
 simp only[h1,d,fI,Li (show 1048578≤N by omega)]
theorem EX {α:Type} [DecidableEq α]:∀ (l m:List α),l.length=m.length→nN (fun x y=>decide (x=y)) l m=decide (l=m)
 | [],[],_=>by simp[nN]
 | a :: l,b :: m,h=>by
  simp only[nN]
  rw[EX l m (by simpa using h)]
  by_cases e:a=b<;>simp[e]
 | [],_ :: _,h=>by simp at h
 | _ :: _,[],h=>by simp at h
def tj (a b:ar):Bool:=decide (a.Toks.Perm b.Toks)
def oZ (v w:aH):Bool:=nN tj v.Levels w.Levels
def EA (m x:aJ):Bool:=nN (fun a b=>decide (a.L=b.L)) m.Alphas x.Alphas && nN oZ m.Rules x.Rules
theorem Cz {N:Nat} (f:1099000000000≤N) (a b:ar) (g:a.Toks.length≤4294967296) (l:∀ t∈a.Toks,CK t) (o:∀ t∈b.Toks,CK t):iT N a b=some (tj a b):=by
 unfold iT tj
 by_cases c:a.Toks.length=b.Toks.length
 ·have c1:decide ((a.Toks.length:Int)=(b.Toks.length:Int))=true:=decide_eq_true OV
  have p:Ci a.Toks (d9 N)=some (srt gt a.Toks):=FZ g qO fun x d y q=>rb f x y (l x d)
  have r:Ci b.Toks (d9 N)=some (srt gt b.Toks):=FZ OV qO fun x d y q=>rb f x y (o x d)
  have j:=lO (c:=gt) a.Toks
  have s:=lO (c:=gt) b.Toks
  have m:(srt gt a.Toks).length=(srt gt b.Toks).length:=by rw[j.length_eq,s.length_eq];exact c
  have hm:(srt gt a.Toks).length≤4294967296:=by rw[j.length_eq];exact g
  have k:=lp2 (aO N (srt gt a.Toks) (srt gt b.Toks) (mr N)) (srt gt a.Toks) (srt gt b.Toks) m hm (fun x y=>decide (x=y)) (some true) (some false)
   (fun n i x y g1 g2 g3 g4 g5 g6=>by
    have d:CK x:=l x (j.mem_iff.1 g3)
    simp only[aO,g5,if_true,g1,g2,fI,mr,rb f x y d,g6]
    by_cases e:x=y
    ·subst e
     have:gt x x=0:=qJ.2 rfl
     simp[this]
    ·have:gt x y≠0:=fun h=>e (qJ.1 h)
     simp[this,e])
   (fun n i g1 g2=>by simp only[aO,g1,gb,if_false]) N 0 OV OV
  simp only[hY,EX _ _ m] at k
  have c2:decide (((srt gt a.Toks).length:Int)=((srt gt b.Toks).length:Int))=true:=decide_eq_true OV
  simp only[c1,hI,gb,if_false,eH,gD g,gD (show b.Toks.length≤4294967296 by omega),fI,eU,p,r,cH,c2]
  rw[show ((0:Nat):Int)=0 from rfl] at k
  rw[k]
  by_cases hp:a.Toks.Perm b.Toks
  ·simp[hp,(FF qO).2 hp]
  ·have u : ¬ srt gt a.Toks=srt gt b.Toks:=fun e=>hp ((FF qO).1 e)
   simp[hp,u]
 ·have c1:decide ((a.Toks.length:Int)=(b.Toks.length:Int))=false:=decide_eq_false OV
  simp only[c1,hW,if_true]
  rw[decide_eq_false fun h=>c h.length_eq]
def Nc (a:ar):Prop:=a.Toks.length≤4294967296∧∀ t∈a.Toks,CK t
def Jq (w:aH):Prop:=w.Levels.length≤4294967296∧∀ a∈w.Levels,Nc a
def DL (m:aJ):Prop:=(m.Alphas.length≤4294967296∧∀ a∈m.Alphas,a.L.length≤4294967296)∧m.Rules.length≤4294967296∧∀ w∈m.Rules,Jq w
theorem Gq {N:Nat} (d:1099000000000≤N) (v w:aH) (a:Jq v) (hw:Jq w):gA N v w=some (oZ v w):=by
 unfold gA bN oZ
 by_cases c:v.Levels.length=w.Levels.length
 ·have b:=lp2 (aD N v.Levels w.Levels (iT N)) v.Levels w.Levels c a.1 tj (some true) (some false)
   (fun n i x y g1 g2 g3 g4 g5 g6=>by
    simp only[aD,g5,if_true,g1,g2,fI,Cz d x y (a.2 x g3).1 (a.2 x g3).2 (hw.2 y g4).2,g6]
    cases tj x y<;>simp)
   (fun n i g1 g2=>by simp only[aD,g1,gb,if_false]) N 0 OV (by have:=a.1;omega)
  simp only[hY] at b
  rw[show ((0:Nat):Int)=0 from rfl] at b
  have c1:decide ((v.Levels.length:Int)=(w.Levels.length:Int))=true:=decide_eq_true OV
  simp only[c1,hI,gb,if_false,b]
  cases nN tj v.Levels w.Levels<;>rfl
 ·have c1:decide ((v.Levels.length:Int)=(w.Levels.length:Int))=false:=decide_eq_false OV
  simp only[c1,hW,if_true,fI]
  cases h:nN tj v.Levels w.Levels with
  | false=>rfl
  | true=>exact absurd (vN h) c
theorem H8 {N:Nat} (f:1099000000000≤N) (m x:aJ) (hm:DL m) (g:DL x):ox N m x=some (EA m x):=by
 unfold ox EA
 have j:bQ N m.Alphas x.Alphas (ip N)=some (nN (fun a b=>decide (a.L=b.L)) m.Alphas x.Alphas):=by
  unfold bQ
  by_cases c:m.Alphas.length=x.Alphas.length
  ·have d:=lp2 (aP N m.Alphas x.Alphas (ip N)) m.Alphas x.Alphas c hm.1.1 (fun a b=>decide (a.L=b.L)) (some true) (some false)
    (fun n i u v g1 g2 g3 g4 g5 g6=>by
     simp only[aP,g5,if_true,g1,g2,fI,ip,BU f u.L v.L (hm.1.2 u g3),g6]
     by_cases e:u.L=v.L<;>simp[e])
    (fun n i g1 g2=>by simp only[aP,g1,gb,if_false]) N 0 OV (by have:=hm.1.1;omega)
   simp only[hY] at d
   rw[show ((0:Nat):Int)=0 from rfl] at d
   have c1:decide ((m.Alphas.length:Int)=(x.Alphas.length:Int))=true:=decide_eq_true OV
   simp only[c1,hI,gb,if_false,d]
   cases nN (fun a b=>decide (a.L=b.L)) m.Alphas x.Alphas<;>rfl
  ·have c1:decide ((m.Alphas.length:Int)=(x.Alphas.length:Int))=false:=decide_eq_false OV
   simp only[c1,hW,if_true]
   cases h:nN (fun a b=>decide (a.L=b.L)) m.Alphas x.Alphas with
   | false=>rfl
   | true=>exact absurd (vN h) c
 have a2:bO N m.Rules x.Rules (gA N)=some (nN oZ m.Rules x.Rules):=by
  unfold bO
  by_cases c:m.Rules.length=x.Rules.length
  ·have d:=lp2 (aN N m.Rules x.Rules (gA N)) m.Rules x.Rules c hm.2.1 oZ (some true) (some false)
    (fun n i u v g1 g2 g3 g4 g5 g6=>by
     simp only[aN,g5,if_true,g1,g2,fI,Gq f u v (hm.2.2 u g3) (g.2.2 v g4),g6]
     cases oZ u v<;>simp)
    (fun n i g1 g2=>by simp only[aN,g1,gb,if_false]) N 0 OV (by have:=hm.2.1;omega)
   simp only[hY] at d
   rw[show ((0:Nat):Int)=0 from rfl] at d
   have c1:decide ((m.Rules.length:Int)=(x.Rules.length:Int))=true:=decide_eq_true OV
   simp only[c1,hI,gb,if_false,d]
   cases nN oZ m.Rules x.Rules<;>rfl
  ·have c1:decide ((m.Rules.length:Int)=(x.Rules.length:Int))=false:=decide_eq_false OV
   simp only[c1,hW,if_true]
   cases h:nN oZ m.Rules x.Rules with
   | false=>rfl
   | true=>exact absurd (vN h) c
 simp only[j,a2,fI]
 cases nN (fun a b=>decide (a.L=b.L)) m.Alphas x.Alphas<;>simp
def yj (k h:Int) (t:an):Bool:=decide ((t.Ids.length:Int)=k) && decide ((t.Hits.length:Int)=h)
def Cc (c:aG):Nat→List ar→Bool
 | _,[]=>true
 | i,L :: Ls=>L.Toks.all (yj ((i+1:Nat):Int) (if i+1=c.Pos.length then (c.Neg.length:Int) else 0)) && Cc c (i+1) Ls
def w5 (c:aG) (w:aH):Bool:=decide (w.Levels.length=c.Pos.length) && Cc c 0 w.Levels
def xd (n:bH) (m:aJ):Bool:=(decide (m.Alphas.length=n.Alphas.length) && decide (m.Rules.length=n.Chains.length)) && nN w5 n.Chains m.Rules
def jQ (id:Int) (l:List an):List an:=l.filter fun t=>!decide (id∈t.Ids)
def iw (id:Int) (L:ar):ar:=⟨jQ id L.Toks⟩
def xV (id:Int) (i:bk):bk:=⟨i.L.filter fun x=>!decide (x=id)⟩
def jO (xs:List ak) (f:aL) (id:Int) (r:ah) (w:aH):aH:=cZ xs (pos r.Pats) (neg r.Pats) f (-1) ⟨w.Levels.map (iw id)⟩
def nW (g:ah→aH→aH):List ah→List aH→List aH
 | r :: a,w :: ws=>g r w :: nW g a ws
 | _,ws=>ws
def tv (d:bf) (m:aJ) (s:ae) (id:Int):aJ:=⟨m.Alphas.map (xV id),nW (jO s.Items (aF s.Items id).1 id) d.Rules m.Rules⟩
theorem vq {g:ah→aH→aH}:∀ (a:List ah) (ws:List aH),a.length=ws.length→(nW g a ws).length=ws.length∧∀ (i:Nat) (v:aH),(nW g a ws)[i]?=some v→∃ (r:ah) (w:aH),a[i]?=some r∧ws[i]?=some w∧v=g r w
 | [],[],_=>⟨rfl,fun i v h=>by simp[nW] at h⟩
 | [],w :: ws,h=>by simp at h
 | r :: a,[],h=>by simp at h
 | r :: a,w :: ws,h=>by
  obtain⟨h1,c⟩:=vq (g:=g) a ws (by simpa using h)
  refine⟨by simp[nW,h1],fun i v b=>?_⟩
  cases i with
  | zero=>simp only[nW,K4,Option.some.injEq] at b;exact⟨r,w,rfl,rfl,b.symm⟩
  | succ i=>simp only[nW,P4] at b;simpa using c i v b
theorem HF {id:Int} {r:ah} {j:Nat} {w:aH} (h:DC r j w):DC r j ⟨w.Levels.map (iw id)⟩:=by
 obtain⟨h1,d⟩:=h
 refine⟨by simpa using h1,fun i M c=>?_⟩
 simp only[nn,w2] at c
 obtain⟨L,e,rfl⟩:=c
 obtain⟨a,b⟩:=d i L e
 have f:(jQ id L.Toks).length≤L.Toks.length:=py _ _
 exact⟨l3 f a,fun t g=>b t (l0.1 g).1⟩
theorem AG {d:bf} {n:bH} {m:aJ} {s:ae} {id:Int} {j:Nat} (h:m3 d n j m):m3 d n j (tv d m s id):=by
 have a:=vq (g:=jO s.Items (aF s.Items id).1 id) d.Rules m.Rules h.lr.symm
 refine⟨by simpa[tv] using h.la,by show (nW _ _ _).length=_;rw[a.1];exact h.lr,fun i b=>?_,fun i r v c f=>?_⟩
 ·simp only[tv] at b
  obtain⟨y,k,rfl⟩:=hG.1 b
  have l:(xV id y).L.length≤y.L.length:=py _ _
  exact l3 l (h.al y k)
 ·obtain⟨o,w,e,a3,rfl⟩:=a.2 i v f
  rw[c] at e
  cases e
  exact vV (HF (h.rows i r w c a3))
theorem NK {N:Nat} (a:1099000000000≤N) (l:List Int) (v:Int) (b:l.length≤4294967296):pV N l v=some (decide (v∈l)):=by
 unfold pV
 refine lp0 a l b (gZ N l v) (fun t=>some (decide (v∈t))) (fun n j x t g1 g2 g3 g4 g5 g6 g7=>?_) (fun n j g1 g2=>?_)
 ·simp only[gZ,g5,if_true,g4,fI,g6,g7]
  by_cases h:x=v
  ·simp[h]
  ·have c : ¬ v=x:=fun e=>h e.symm
   simp[h,c]
 ·simp only[gZ,g2,gb,if_false];simp
theorem Ha {N:Nat} (b:1099000000000≤N) (l:List an) (id:Int) (a:l.length≤4294967296) (f:∀ t∈l,t.Ids.length≤4294967296):kH N l id=some (jQ id l):=by
 unfold kH
 have g:td l=some ():=by unfold td;rw[if_pos a]
 rw[g,fI]
 refine (lp' b l a (fun n (u:List an) i=>ef N l id n u i) (fun t u=>some (u++jQ id t)) (fun u t=>u.length+t.length≤4294967296) [] (by simpa using a) (fun n u i x t g1 g2 g3 g4 g5 g6 c d=>?_) (fun n u i g1 g2 c=>?_)).trans OW
 ·simp only[gj] at c
  have e:jQ id (x :: t)=if id∈x.Ids then jQ id t else x :: jQ id t:=by
   unfold jQ;rw[j8];by_cases h:id∈x.Ids<;>simp[h]
  simp only[ef,g5,if_true,g4,fI,NK b x.Ids id (f x g2),g6,e]
  by_cases h:id∈x.Ids
  ·simp only[h,decide_true,hI,gb,if_false,if_true]
   exact d u OV
  ·simp only[h,decide_false,hW,if_true,if_false,bV (show u.length+[x].length≤4294967296 by simp;omega),fI]
   rw[d _ (by simp;omega)];simp
 ·simp only[ef,g2,gb,if_false];simp[jQ]
structure DY (d:bf) (m:aJ) (s:ae):Prop where
 sl:s.Items.length≤1048576
 fl:∀ x∈s.Items,x.F.Fields.length≤1048576
 al:m.Alphas.length≤1048576
 ll:∀ i∈m.Alphas,i.L.length≤1048576
 rl:m.Rules.length≤1048576
 ld:d.Rules.length=m.Rules.length
 rows:∀ (i:Nat) (r:ah) (w:aH),d.Rules[i]?=some r→m.Rules[i]?=some w→SzS r s∧(pos r.Pats).length=ao r.Pats∧1≤w.Levels.length∧w.Levels.length≤(pos r.Pats).length ∧
  (∀ L∈w.Levels,L.Toks.length≤4294967296∧∀ t∈L.Toks,t.Ids.length≤(pos r.Pats).length)∧∀ L,w.Levels[w.Levels.length - 1]?=some L→∀ t∈L.Toks,t.Hits.length=(neg r.Pats).length∧∀ x∈t.Hits,InR x
theorem KI {N:Nat} (i:1099000000000≤N) (d:bf) (s:ae) (id:Int) (b:Bool) (f:List aH) (a:Int) (K:List aH→Int→Option aJ) (r:ah) (w:aH) (v:idx d.Rules a=some r) (j:SzS r s) (F:(pos r.Pats).length=ao r.Pats) (h1:1≤w.Levels.length) (G:w.Levels.length≤(pos r.Pats).length)
  (k:∀ L∈w.Levels,L.Toks.length≤4294967296∧∀ t∈L.Toks,t.Ids.length≤(pos r.Pats).length) (z:∀ L,w.Levels[w.Levels.length - 1]?=some L→∀ t∈L.Toks,t.Hits.length=(neg r.Pats).length∧∀ x∈t.Hits,InR x) :
  gr N d s id ((aF s.Items id).1,b) f a K N w.Levels 0=K (f.set a.toNat (jO s.Items (aF s.Items id).1 id r w)) (IntKind.i64.wrap (a+1)):=by
 have H:=eh r.Pats
 have I:=j.pl
 have lp:∀ (rest:List ar) (n:Nat) (done:List ar),rest.length < n→w.Levels=done++rest →
   gr N d s id ((aF s.Items id).1,b) f a K n (done.map (iw id)++rest) (done.length:Int)=K (f.set a.toNat (jO s.Items (aF s.Items id).1 id r w)) (IntKind.i64.wrap (a+1)):=by
  intro rest
  induction rest with
  | nil=>
   intro n done g c
   obtain⟨n,rfl⟩:∃ m,n=m+1:=⟨n - 1,by simp at g;omega⟩
   have A:w.Levels=done:=by simpa using c
   subst A
   have c1:decide ((w.Levels.length:Int) < ((w.Levels.map (iw id)++[]).length:Int))=false:=decide_eq_false OW
   have h:IntKind.i64.wrap (((w.Levels.map (iw id)++[]).length:Int) - 1)=((w.Levels.length - 1:Nat):Int):=by
    rw[ix,p4,show ((w.Levels.length:Int) - 1)=((w.Levels.length - 1:Nat):Int) by omega]
    exact wr OV OV
   have l:w.Levels.length - 1 < w.Levels.length:=by omega
   have o:w.Levels[w.Levels.length - 1]?=some w.Levels[w.Levels.length - 1]:=gx l
   have p:(w.Levels.map (iw id))[w.Levels.length - 1]?=some (iw id w.Levels[w.Levels.length - 1]):=by rw[nn,o];rfl
   have B:idx (w.Levels.map (iw id)++[]) ((w.Levels.length - 1:Nat):Int)=some (iw id w.Levels[w.Levels.length - 1]):=by rw[ix,mR,p]
   obtain⟨q,z2⟩:=k _ (hK l)
   have M:(iw id w.Levels[w.Levels.length - 1]).Toks.length≤w.Levels[w.Levels.length - 1].Toks.length:=py _ _
   have e:=Ic i r s j (aF s.Items id).1 (-1) (Or.inr rfl) (iw id w.Levels[w.Levels.length - 1]).Toks OV (fun t e=>by
    have hm:t∈w.Levels[w.Levels.length - 1].Toks:=(l0.1 e).1
    exact⟨by have:=z2 t hm;omega,z _ o t hm⟩)
   simp only[gr,c1,gb,if_false,v,fI,h,B,e,hQ]
   unfold jO cZ
   simp only[p4,p,ix]
  | cons L Ls C=>
   intro n done g c
   obtain⟨n,rfl⟩:∃ m,n=m+1:=⟨n - 1,OV⟩
   simp only[gj] at g
   have O:w.Levels.length=done.length+(Ls.length+1):=by rw[c];simp
   have c1:decide ((done.length:Int) < ((done.map (iw id)++L :: Ls).length:Int))=true:=decide_eq_true (by simp;omega)
   have u:(done.map (iw id)).length=done.length:=by simp
   have D:idx (done.map (iw id)++L :: Ls) (done.length:Int)=some L:=by rw[← u];exact du _ _ _
   have E:∀ y:ar,(done.map (iw id)++L :: Ls).set (done.length:Int).toNat y=(done.map (iw id)++[y])++Ls:=fun y=>by rw[hQ,← u];exact jd _ _ _ _
   obtain⟨q,z2⟩:=k L (by rw[c];simp)
   have h:=Ha i L.Toks id q (fun t e=>by have:=z2 t e;omega)
   simp only[gr,c1,if_true,D,fI,h,E,wr1 done.length OV]
   have:=C n (done++[L]) OV (by rw[c];simp)
   simp only[gk,gj,gm,ho,rs,hL,rr] at this
   exact this
 have:=lp w.Levels N [] OV rfl
 simpa using this
theorem ER {N:Nat} (l:1099000000000≤N) (d:bf) (s:ae) (id:Int) (b:Bool) (as:List bk) (m:d.Rules.length≤1048576) :
  ∀ (ws:List aH) (c:List ah) (k:Nat) (e:List ah) (a:List aH),ws.length < k→d.Rules=e++c→e.length=a.length→c.length=ws.length →
   (∀ (i:Nat) (r:ah) (w:aH),c[i]?=some r→ws[i]?=some w→SzS r s∧(pos r.Pats).length=ao r.Pats∧1≤w.Levels.length∧w.Levels.length≤(pos r.Pats).length ∧
    (∀ L∈w.Levels,L.Toks.length≤4294967296∧∀ t∈L.Toks,t.Ids.length≤(pos r.Pats).length)∧∀ L,w.Levels[w.Levels.length - 1]?=some L→∀ t∈L.Toks,t.Hits.length=(neg r.Pats).length∧∀ x∈t.Hits,InR x) →
   f8 N d s id ((aF s.Items id).1,b) as k (a++ws) (a.length:Int)=some ⟨as,a++nW (jO s.Items (aF s.Items id).1 id) c ws⟩
 | [],c,k,e,a,hk,h1,f,g,h=>by
  obtain⟨k,rfl⟩:∃ j,k=j+1:=⟨k - 1,by simp at hk;omega⟩
  have n:c=[]:=oj.1 g
  subst n
  have c1:decide ((a.length:Int) < (d.Rules.length:Int))=false:=decide_eq_false (by rw[h1,← f];simp)
  simp only[f8,c1,gb,if_false,nW]
 | w :: ws,[],k,e,a,hk,h1,f,g,h=>by simp at g
 | w :: ws,r :: c,k,e,a,hk,h1,f,g,h=>by
  obtain⟨k,rfl⟩:∃ j,k=j+1:=⟨k - 1,OV⟩
  simp only[gj] at hk g
  have C:d.Rules.length=a.length+(c.length+1):=by rw[h1,← f];simp
  have c1:decide ((a.length:Int) < (d.Rules.length:Int))=true:=decide_eq_true OV
  obtain⟨o,p,q,u,v,y⟩:=h 0 r w rfl rfl
  have z:idx d.Rules (a.length:Int)=some r:=by rw[h1,← f];exact du _ _ _
  simp only[f8,c1,if_true,du,fI]
  rw[KI l d s id b (a++w :: ws) (a.length:Int) _ r w z o p q u v y]
  simp only[hQ,jd,wr1 a.length OV]
  have:=ER l d s id b as m ws c k (e++[r]) (a++[jO s.Items (aF s.Items id).1 id r w]) OV (by rw[h1];simp) (by simp[f]) OV
   (fun i A w' B a3=>h (i+1) A w' (by simpa using B) (by simpa using a3))
  simp only[gk,gj,gm,ho] at this
  rw[this,gi]
  rfl
theorem JI {N:Nat} (d:1099000000000≤N) (id:Int) (s1:List bk) (s2:Int) (K:List bk→Int→Option aJ) (x:bk) (a:idx s1 s2=some x) (e:x.L.length≤1048576) :
  fc N id s1 s2 K N [] 0=K (s1.set s2.toNat (xV id x)) (IntKind.i64.wrap (s2+1)):=by
 refine (lp' d x.L OV (fun n (u:List Int) i=>fc N id s1 s2 K n u i) (fun t u=>K (s1.set s2.toNat (⟨u++t.filter fun x=>!decide (x=id)⟩:bk)) (IntKind.i64.wrap (s2+1))) (fun u t=>u.length+t.length≤1048576) [] (by simpa using e) (fun n u i v t g1 g2 g3 g4 g5 g6 b c=>?_) (fun n u i g1 g2 b=>?_)).trans (by simp[xV])
 ·simp only[gj] at b
  simp only[fc,a,fI,g5,if_true,g4,g6,j8]
  by_cases h:v=id
  ·simp only[h,decide_true,hI,gb,if_false]
   exact c u OV
  ·simp only[h,decide_false,hW,if_true,bV (show u.length+[v].length≤4294967296 by simp;omega),fI]
   rw[c _ (by simp;omega)];simp
 ·simp only[fc,a,fI,g2,gb,if_false,List.filter_nil,ix]
theorem Jv {N:Nat} (b:1099000000000≤N) (d:bf) (m:aJ) (s:ae) (id:Int) (h:DY d m s):ol N d m s id=some (tv d m s id):=by
 have p:=h.al
 have q:=h.rl
 have r:=h.ld
 unfold ol
 rw[zI b s id h.sl h.fl,fI]
 have lp:∀ (is:List bk) (n:Nat) (a:List bk),is.length < n→m.Alphas.length=a.length+is.length→(∀ i∈is,i.L.length≤1048576) →
   eR N d m s id (aF s.Items id) n (a++is) (a.length:Int)=f8 N d s id (aF s.Items id) (a++is.map (xV id)) N m.Rules 0:=by
  intro is
  induction is with
  | nil=>
   intro n a c f e
   obtain⟨n,rfl⟩:∃ m,n=m+1:=⟨n - 1,by simp at c;omega⟩
   have c1:decide ((a.length:Int) < ((a++[]).length:Int))=false:=decide_eq_false OW
   simp only[eR,c1,gb,if_false,rr]
  | cons i is k=>
   intro n a c f e
   obtain⟨n,rfl⟩:∃ m,n=m+1:=⟨n - 1,OV⟩
   simp only[gj] at c f
   have c1:decide ((a.length:Int) < ((a++i :: is).length:Int))=true:=decide_eq_true (by simp;omega)
   simp only[eR,c1,if_true]
   rw[JI b id _ _ _ i (du _ _ _) (e i OW),hQ,jd,wr1 a.length OV]
   have:=k n (a++[xV id i]) OV (by simp;omega) (fun j l=>e j (by simp[l]))
   simp only[gk,gj,gm,ho] at this
   rw[this,hL,gi];rfl
 have h1:=lp m.Alphas N [] OV OW h.ll
 simp only[hz,gm,l4] at h1
 have o:eR N d m s id (aF s.Items id) N m.Alphas 0=_:=h1
 rw[o]
 have g:=ER b d s id (aF s.Items id).2 (m.Alphas.map (xV id)) OV m.Rules d.Rules N [] [] OV rfl rfl h.ld h.rows
 simp only[hz,gm,l4] at g
 exact g
structure MO (j:Nat) (m:aJ):Prop where
 la:m.Alphas.length≤1001
 lr:m.Rules.length≤1001
 al:∀ i∈m.Alphas,i.L.length≤j
 rows:∀ w∈m.Rules,w.Levels.length≤3∧∀ k L,w.Levels[k]?=some L→L.Toks.length≤j*100 ^ k∧∀ t∈L.Toks,t.Ids.length≤1000∧t.Hits.length≤1000∧(k+1=w.Levels.length→∀ x∈t.Hits,InR x)
theorem MO.sz {j:Nat} {m:aJ} (c:j≤40) (h:MO j m):DL m:=by
 have h1:=h.la
 have g:=h.lr
 refine⟨⟨OV,fun a d=>by have:=h.al a d;omega⟩,OV,fun w hw=>?_⟩
 obtain⟨i,z2⟩:=h.rows w hw
 refine⟨OV,fun L e=>?_⟩
 obtain⟨k,hk,rfl⟩:=zx e
 obtain⟨a,b⟩:=z2 k _ (gx hk)
 have hp:100 ^ k≤100 ^ 2:=Nat.pow_le_pow_right OV OV
 have:j*100 ^ k≤40*100 ^ 2:=P2 c hp
 refine⟨OV,fun t f=>?_⟩
 have:=b t f
 exact⟨OV,OV⟩
theorem yu {d:bf} (b:iq d=true):∀ r∈d.Rules,r.Pats.length≤6∧1≤(pos r.Pats).length∧(pos r.Pats).length≤3∧(neg r.Pats).length≤6:=fun r c=>by
 have a:=kX b r c
 have hp:iy r.Pats=true:=by
  unfold ja at a
  simp only[ha] at a
  exact a.2.2.1
 have f:(pos r.Pats).length=ao r.Pats:=qh r.Pats
 have g:(neg r.Pats).length≤r.Pats.length:=py _ _
 unfold iy at hp
 simp only[ha,decide_eq_true_eq] at hp
 obtain⟨⟨_,e⟩,⟨h,i⟩,_⟩:=hp
 exact⟨e,OV,OV,OV⟩
theorem Fo {d:bf} {n:bH} {j:Nat} {m:aJ} (c:iq d=true) (q:n.Alphas.length≤1001) (h:m3 d n j m):MO j m:=by
 have r:d.Rules.length≤12:=by
  unfold iq at c
  simp only[ha,decide_eq_true_eq] at c
  exact c.2.1.2
 have h1:=h.la
 have s:=h.lr
 refine⟨OV,OV,h.al,fun w hw=>?_⟩
 obtain⟨i,l,rfl⟩:=zx hw
 have f:i < d.Rules.length:=by omega
 obtain⟨u,o⟩:=h.rows i _ _ (gx f) (gx l)
 obtain⟨v,x,y,z⟩:=yu c _ (hK f)
 refine⟨OV,fun k L g=>?_⟩
 obtain⟨a,b⟩:=o k L g
 have hk:k < m.Rules[i].Levels.length:=(gI.1 g).1
 refine⟨a,fun t p=>?_⟩
 obtain⟨t1,t2,t3⟩:=b t p
 exact⟨OV,OV,fun e=>(t3 OV).2⟩
theorem AE {d:bf} {m:aJ} {s:ae} {id:Int} {j:Nat} (l:iq d=true) (n:pA d) (o:s.Items.length≤40) (f:∀ x∈s.Items,x.F.Fields.length≤1048576) (p:j≤40) (h:m3 d (bB d) j m):DY d m s:=by
 have ok:=vX (id:=id) l n o f p h
 have z:=ok.ok.la
 have A:=ok.ok.al
 refine⟨ok.ok.sl,f,OV,fun i c=>by have:=h.al i c;omega,ok.ok.rl,ok.ok.ld,fun i r w g e=>?_⟩
 obtain⟨q,u,v⟩:=ok.rows i r w g e
 have c:i < (bB d).Chains.length:=by
  have:=(gI.1 e).1
  have:=ok.ok.lc
  omega
 obtain⟨_,ro⟩:=ok.ok.rows i r _ w g (gx c) e
 have y:=ro.ne
 have B:=ro.ll
 refine⟨q,u,y,OV,fun L a=>?_,fun L a t b=>⟨ro.hit L a t b,v L a t b⟩⟩
 obtain⟨k,hk,rfl⟩:=zx a
 refine⟨y4 ro.fit _ (hG.2 ⟨_,hK hk,rfl⟩),fun t b=>?_⟩
 have:=ro.ids k _ (gx hk) t b
 omega
theorem Mu {N:Nat} (e:1099000000000≤N) (a:List ar) (b:Int) (K:List ar→Int→Option aJ) (L:ar) (c:Nc L) (f:a.length+1≤4294967296) :
  fY N a b K L N [] 0=K (a++[L]) (IntKind.i64.wrap (b+1)):=by
 refine (lp' e L.Toks c.1 (fun n (u:List an) i=>fY N a b K L n u i) (fun t u=>K (a++[(⟨u++t⟩:ar)]) (IntKind.i64.wrap (b+1))) (fun u t=>u.length+t.length≤4294967296) [] (by simpa using c.1) (fun n u i x t g1 g2 g3 g4 g5 g6 d g=>?_) (fun n u i g1 g2 d=>?_)).trans OW
 ·simp only[gj] at d
  obtain⟨h,z2⟩:=c.2 x g2
  simp only[fY,g5,if_true,g4,fI,bm,gD h,gD z2,show (⟨x.Ids,x.Hits⟩:an)=x from rfl,bV (show u.length+[x].length≤4294967296 by simp;omega),g6]
  rw[g _ (by simp;omega)];simp
 ·simp only[fY,g2,gb,if_false,ix,bV (show a.length+[(⟨u⟩:ar)].length≤4294967296 by simpa using f),fI]
theorem MN {N:Nat} (d:1099000000000≤N) (a:List aH) (b:Int) (K:List aH→Int→Option aJ) (w:aH) (c:Jq w) (f:a.length+1≤4294967296) :
  eS N a b K w N [] 0=K (a++[w]) (IntKind.i64.wrap (b+1)):=by
 refine (lp' d w.Levels c.1 (fun n (u:List ar) i=>eS N a b K w n u i) (fun t u=>K (a++[(⟨u++t⟩:aH)]) (IntKind.i64.wrap (b+1))) (fun u t=>u.length+t.length≤4294967296) [] (by simpa using c.1) (fun n u i x t g1 g2 g3 g4 g5 g6 e g=>?_) (fun n u i g1 g2 e=>?_)).trans OW
 ·simp only[gj] at e
  simp only[eS,g5,if_true,g4,fI]
  rw[Mu d u i _ x (c.2 x g2) OV,g6,g _ (by simp;omega)];simp
 ·simp only[eS,g2,gb,if_false,ix,bV (show a.length+[(⟨u⟩:aH)].length≤4294967296 by simpa using f),fI]
theorem Hu {N:Nat} (b:1099000000000≤N) (m:aJ) (hm:DL m):mw N m=some m:=by
 obtain⟨⟨h1,d⟩,h3,h4⟩:=hm
 have e:∀ as:List bk,ek N m as N [] 0=some ⟨as,m.Rules⟩:=by
  intro as
  refine (lp' b m.Rules h3 (fun n (u:List aH) i=>ek N m as n u i) (fun t u=>some ⟨as,u++t⟩) (fun u t=>u.length+t.length≤4294967296) [] (by simpa using h3) (fun n u i x t g1 g2 g3 g4 g5 g6 a c=>?_) (fun n u i g1 g2 a=>?_)).trans OW
  ·simp only[gj] at a
   simp only[ek,g5,if_true,g4,fI]
   rw[MN b u i _ x (h4 x g2) OV,g6,c _ (by simp;omega)];simp
  ·simp only[ek,g2,gb,if_false,ix]
 unfold mw
 refine (lp' b m.Alphas h1 (fun n (u:List bk) i=>ir N m n u i) (fun t u=>some ⟨u++t,m.Rules⟩) (fun u t=>u.length+t.length≤4294967296) [] (by simpa using h1) (fun n u i x t g1 g2 g3 g4 g5 g6 a c=>?_) (fun n u i g1 g2 a=>?_)).trans OW
 ·simp only[gj] at a
  simp only[ir,g5,if_true,g4,fI,bm,gD (d x g2),show (⟨x.L⟩:bk)=x from rfl,bV (show u.length+[x].length≤4294967296 by simp;omega),g6]
  rw[c _ (by simp;omega)];simp
 ·simp only[ir,g2,gb,if_false,e,ix]
theorem N5 {N:Nat} (a:1099000000000≤N) (i:Nat) (c:i≤4294967296) (K:Int→Option Bool) (L:ar) (h:Int) (b:L.Toks.length≤4294967296) :
  fU N (i:Int) K L h N 0=if L.Toks.all (yj ((i+1:Nat):Int) h)=true then K ((i+1:Nat):Int) else some false:=by
 refine lp0 a L.Toks b (fU N (i:Int) K L h) (fun t=>if t.all (yj ((i+1:Nat):Int) h)=true then K ((i+1:Nat):Int) else some false) (fun n j x t g1 g2 g3 g4 g5 g6 g7=>?_) (fun n j g1 g2=>?_)
 ·simp only[fU,g5,if_true,g4,fI,wr1 i OV,g6,g7,p1,yj]
  by_cases c1:(x.Ids.length:Int)=((i+1:Nat):Int)
  ·by_cases c2:(x.Hits.length:Int)=h<;>simp[c1,c2]
  ·simp only[decide_eq_false c1,hW,if_true,fI,qa,gb,if_false]
 ·simp only[fU,g2,gb,if_false,wr1 i OV];rfl
theorem N4 {N:Nat} (b:1099000000000≤N) (s1:Int) (K:Int→Option Bool) (c:aG) (w:aH) (l:w.Levels.length=c.Pos.length) (m:w.Levels.length≤4294967296) (d:∀ L∈w.Levels,L.Toks.length≤4294967296) :
  ∀ (k i:Nat),i≤w.Levels.length→w.Levels.length - i < k→cY N s1 K w c k (i:Int)=if Cc c i (w.Levels.drop i)=true then K (IntKind.i64.wrap (s1+1)) else some false:=by
 intro k
 induction k with
 | zero=>intro i _ h;omega
 | succ k e=>
  intro i n hk
  by_cases a:i < w.Levels.length
  ·have c1:decide ((i:Int) < (w.Levels.length:Int))=true:=decide_eq_true OV
   have f:IntKind.i64.wrap ((c.Pos.length:Int) - 1)=((c.Pos.length - 1:Nat):Int):=by
    rw[show ((c.Pos.length:Int) - 1)=((c.Pos.length - 1:Nat):Int) by omega]
    exact wr OV OV
   have g:=d _ (hK a)
   rw[hy a,Cc]
   have j:∀ h:Int,iY N (i:Int) (cY N s1 K w c k) w.Levels[i] h=if (w.Levels[i].Toks.all (yj ((i+1:Nat):Int) h) && Cc c (i+1) (w.Levels.drop (i+1)))=true then K (IntKind.i64.wrap (s1+1)) else some false:=by
    intro h
    unfold iY
    rw[N5 b i OV _ _ h g,e (i+1) OV OV]
    cases w.Levels[i].Toks.all (yj ((i+1:Nat):Int) h)<;>simp
   simp only[cY,c1,if_true,f,ag a,fI,j]
   by_cases he:i+1=c.Pos.length
   ·have c2:decide ((i:Int)=((c.Pos.length - 1:Nat):Int))=true:=decide_eq_true OV
    rw[c2,if_pos rfl,if_pos he]
   ·have c2:decide ((i:Int)=((c.Pos.length - 1:Nat):Int))=false:=decide_eq_false OV
    rw[c2,if_neg OW,if_neg he]
  ·have c1:decide ((i:Int) < (w.Levels.length:Int))=false:=decide_eq_false OV
   rw[hB OV]
   simp only[cY,c1,gb,if_false,Cc,if_true]
theorem JS {N:Nat} (h:1099000000000≤N) (n:bH) (m:aJ) (hm:DL m):pO N n m=some (xd n m):=by
 unfold pO xd
 by_cases g:m.Alphas.length=n.Alphas.length
 ·by_cases a2:m.Rules.length=n.Chains.length
  ·have c1:decide ((m.Alphas.length:Int)=(n.Alphas.length:Int))=true:=decide_eq_true OV
   have c2:decide ((m.Rules.length:Int)=(n.Chains.length:Int))=true:=decide_eq_true OV
   have b:=lp2 (cN N n m) n.Chains m.Rules a2.symm (by have:=hm.2.1;omega) w5 (some true) (some false)
    (fun k i c w g1 g2 g3 g4 g5 g6=>by
     have a:decide ((i:Int) < (m.Rules.length:Int))=true:=by rw[a2];exact g5
     have hw:=hm.2.2 w g4
     by_cases d:w.Levels.length=c.Pos.length
     ·have f:decide ((w.Levels.length:Int)=(c.Pos.length:Int))=true:=decide_eq_true OV
      have e:=N4 h (i:Int) (cN N n m k) c w d hw.1 (fun L j=>(hw.2 L j).1) N 0 OV (by have:=hw.1;omega)
      simp only[hY] at e
      rw[show ((0:Nat):Int)=0 from rfl] at e
      simp only[cN,a,if_true,g1,g2,fI,f,hI,gb,if_false,e,w5,g6]
      simp only[decide_eq_true d,hZ]
     ·have f:decide ((w.Levels.length:Int)=(c.Pos.length:Int))=false:=decide_eq_false OV
      simp only[cN,a,if_true,g1,g2,fI,f,hW,w5]
      simp only[decide_eq_false d,qa,gb,if_false])
    (fun k i g1 g2=>by
     have a:decide ((i:Int) < (m.Rules.length:Int))=false:=by rw[a2];exact g1
     simp only[cN,a,gb,if_false]) N 0 OV (by have:=hm.2.1;omega)
   simp only[hY] at b
   rw[show ((0:Nat):Int)=0 from rfl] at b
   simp only[c1,c2,hI,gb,if_false,fI,b]
   rw[decide_eq_true g,decide_eq_true a2]
   cases nN w5 n.Chains m.Rules<;>rfl
  ·have c1:decide ((m.Alphas.length:Int)=(n.Alphas.length:Int))=true:=decide_eq_true OV
   have c2:decide ((m.Rules.length:Int)=(n.Chains.length:Int))=false:=decide_eq_false OV
   simp only[c1,c2,hI,hW,gb,if_false,fI,if_true]
   rw[decide_eq_false a2];simp
 ·have c1:decide ((m.Alphas.length:Int)=(n.Alphas.length:Int))=false:=decide_eq_false OV
  simp only[c1,hW,if_true,fI]
  rw[decide_eq_false g];simp
theorem yT {nx:Int} {l:List ak} (h:o5 nx l):∀ x∈l,BN x.F:=fun x a=>Gp (h.2.2.1 x a).2.2
def zP (g:List Int→Bool) (r ys:List Int):List (List Int):=(ys.map fun y=>r++[y]).filter g
def Cy (g:List Int→Bool) (id:Int) (before fresh:List (List Int)) (A:List Int):List (List Int):=before.flatMap (fun r=>zP g r [id])++fresh.flatMap (fun r=>zP g r A)
structure Has (p:List Int→Bool) (k:Nat) (L:List (List Int)):Prop where
 nd:L.Nodup
 iff:∀ r,r∈L↔r.length=k∧p r=true
theorem Has.perm {p:List Int→Bool} {k:Nat} {L M:List (List Int)} (h:Has p k L) (a:Has p k M):L.Perm M:=
 (List.perm_ext_iff_of_nodup h.nd a.nd).2 fun r=>(h.iff r).trans (a.iff r).symm
theorem oc {g:List Int→Bool} {r ys q:List Int}:q∈zP g r ys↔∃ y∈ys,q=r++[y]∧g q=true:=by
 unfold zP
 rw[l0,hG]
 constructor
 ·rintro⟨⟨y,a,rfl⟩,h⟩;exact⟨y,a,rfl,h⟩
 ·rintro⟨y,a,rfl,h⟩;exact⟨⟨y,a,rfl⟩,h⟩
theorem DH {g:List Int→Bool} {r ys:List Int} (h:ys.Nodup):(zP g r ys).Nodup:=by
 unfold zP
 refine List.Pairwise.filter _ (List.Pairwise.map _ (fun a b c e=>c ?_) h)
 simpa using e
theorem xH {g:List Int→Bool} {ys:List Int} (c:ys.Nodup) {L:List (List Int)} (h:L.Nodup):(L.flatMap fun r=>zP g r ys).Nodup:=by
 unfold List.Nodup
 rw[List.pairwise_flatMap]
 refine⟨fun r _=>DH c,h.imp fun {a b} d q f j i e=>d ?_⟩
 obtain⟨y,_,rfl,_⟩:=oc.1 f
 obtain⟨k,_,rfl,_⟩:=oc.1 i
 exact (List.append_inj' e rfl).1
structure AW (g g':List Int→Bool) (id:Int) (A:Nat→List Int) (K:Nat):Prop where
 old:∀ r,g r=true→id ∉ r∧g' r=true
 new:∀ r,g' r=true→id ∉ r→g r=true
 pre:∀ r y,g' (r++[y])=true→g' r=true
 inA:∀ r y,r.length < K→g' (r++[y])=true→y∈A r.length
 nd:∀ k,k < K→(A k).Nodup
theorem Iy {g g':List Int→Bool} {id:Int} {A:Nat→List Int} {K k:Nat} (H:AW g g' id A K) (hk:k < K) {B F:List (List Int)} (i:Has g k B) (j:Has (fun r=>g' r && decide (id∈r)) k F) :
  Has (fun r=>g' r && decide (id∈r)) (k+1) (Cy g' id B F (A k)):=by
 refine⟨?_,fun r=>?_⟩
 ·unfold Cy
  rw[p7]
  refine⟨xH OW i.nd,xH (H.nd k hk) j.nd,fun a t b w e=>?_⟩
  subst e
  obtain⟨x,c,h1⟩:=jf.1 t
  obtain⟨y,d,z⟩:=jf.1 w
  obtain⟨u,_,rfl,_⟩:=oc.1 h1
  obtain⟨v,_,e,_⟩:=oc.1 z
  obtain⟨rfl,-⟩:=List.append_inj' e rfl
  have C:=((i.iff x).1 c).2
  have p:=((j.iff x).1 d).2
  simp only[ha,decide_eq_true_eq] at p
  exact (H.old x C).1 p.2
 ·unfold Cy
  rw[gf,jf,jf]
  simp only[ha,decide_eq_true_eq]
  constructor
  ·rintro (⟨x,c,h⟩ | ⟨x,c,h⟩)
   ·obtain⟨y,d,rfl,h1⟩:=oc.1 h
    have:=(i.iff x).1 c
    refine⟨by simp[this.1],h1,?_⟩
    simp at d;simp[d]
   ·obtain⟨y,d,rfl,h1⟩:=oc.1 h
    have:=(j.iff x).1 c
    simp only[ha,decide_eq_true_eq] at this
    exact⟨by simp[this.1],h1,by simp[this.2.2]⟩
  ·rintro⟨l,f,m⟩
   rcases Ph r with rfl | ⟨q,y,rfl⟩
   ·simp at l
   ·rw[Pj] at l f m ⊢
    have n:q.length=k:=by simpa using l
    have s:=H.pre q y f
    by_cases o:id∈q
    ·right
     refine⟨q,(j.iff q).2 ⟨n,by simp[s,o]⟩,oc.2 ⟨y,?_,rfl,f⟩⟩
     have:=H.inA q y OV f
     rwa [n] at this
    ·left
     refine⟨q,(i.iff q).2 ⟨n,H.new q s o⟩,oc.2 ⟨y,?_,rfl,f⟩⟩
     simp only[gf,o,false_or,j3] at m
     simp[m]
theorem Gn {g g':List Int→Bool} {id:Int} {A:Nat→List Int} {K k:Nat} (H:AW g g' id A K) {L M:List (List Int)} (d:Has g k L) (f:Has (fun r=>g' r && decide (id∈r)) k M):Has g' k (L++M):=by
 refine⟨?_,fun r=>?_⟩
 ·rw[p7]
  refine⟨d.nd,f.nd,fun a i b j e=>?_⟩
  subst e
  have h1:=((d.iff a).1 i).2
  have c:=((f.iff a).1 j).2
  simp only[ha,decide_eq_true_eq] at c
  exact (H.old a h1).1 c.2
 ·rw[gf,d.iff,f.iff]
  simp only[ha,decide_eq_true_eq]
  constructor
  ·rintro (⟨h1,c⟩ | ⟨h1,c,_⟩)
   ·exact⟨h1,(H.old r c).2⟩
   ·exact⟨h1,c⟩
  ·rintro⟨h1,c⟩
   by_cases h:id∈r
   ·exact .inr ⟨h1,c,h⟩
   ·exact .inl ⟨h1,H.new r c h⟩
def xM (g:List Int→Bool) (id:Int) (A:Nat→List Int):Nat→List (List (List Int))→List (List Int)→List (List Int)→List (List (List Int))
 | _,[],_,_=>[]
 | k,L :: Ls,B,F=>(L++Cy g id B F (A k)) :: xM g id A (k+1) Ls L (Cy g id B F (A k))
theorem AK {g g':List Int→Bool} {id:Int} {A:Nat→List Int} {K:Nat} (H:AW g g' id A K):∀ (Ls:List (List (List Int))) (k:Nat) (B F:List (List Int)),k+Ls.length≤K→Has g k B→Has (fun r=>g' r && decide (id∈r)) k F→(∀ i L,Ls[i]?=some L→Has g (k+1+i) L) →
  ∀ i L,(xM g' id A k Ls B F)[i]?=some L→Has g' (k+1+i) L
 | [],k,B,F,_,_,_,_,i,L,h=>by simp[xM] at h
 | L :: Ls,k,B,F,c,d,e,a,i,M,h=>by
  rw[gj] at c
  have hm:=Iy H OV d e
  have b:Has g (k+1) L:=by simpa using a 0 L rfl
  cases i with
  | zero=>
   simp only[xM,K4,Option.some.injEq] at h
   subst h
   exact Gn H b hm
  | succ i=>
   simp only[xM,P4] at h
   have:=AK H Ls (k+1) L _ OV b hm (fun j N f=>by
    have:=a (j+1) N (by simpa using f)
    rwa [show k+1+(j+1)=k+1+1+j by omega] at this) i M h
   rwa [show k+1+(i+1)=k+1+1+i by omega]
theorem AT {g g':List Int→Bool} {id:Int} {A:Nat→List Int} {K:Nat} (H:AW g g' id A K) (a:g []=true) {Ls:List (List (List Int))} (d:Ls.length≤K) (b:∀ i L,Ls[i]?=some L→Has g (i+1) L):∀ i L,(xM g' id A 0 Ls [[]] [])[i]?=some L→Has g' (i+1) L:=by
 intro i L h
 have:=AK H Ls 0 [[]] [] OV ⟨OW,fun r=>by
  constructor
  ·intro h;simp at h;subst h;exact⟨rfl,a⟩
  ·rintro⟨h,_⟩;simp[oj.1 h]⟩ ⟨OW,fun r=>by
  constructor
  ·intro h;cases h
  ·rintro⟨h,h1⟩;have:=oj.1 h;subst this;simp at h1⟩ (fun j N c=>by
   have:=b j N c
   rwa [show 0+1+j=j+1 by omega]) i L h
 rwa [show i+1=0+1+i by omega]
theorem Iw {g g':List Int→Bool} {id:Int} (h:∀ r,g' r=true↔g r=true∧id ∉ r) {k:Nat} {L:List (List Int)} (a:Has g k L):Has g' k (L.filter fun r=>!decide (id∈r)):=by
 refine⟨a.nd.filter _,fun r=>?_⟩
 rw[l0,a.iff,h]
 simp only[Bool.not_eq_true',decide_eq_false_iff_not,and_assoc]
theorem yi {xs:List ak} {v:Int} (h:∀ y∈xs,y.Id≠v):aF xs v=(DQ,false):=by
 unfold aF
 rw[P5.2 fun y a=>by simpa using h y a]
theorem DS {xs:List ak} {x:ak} {v:Int} (h:v≠x.Id):aF (xs++[x]) v=aF xs v:=by
 unfold aF
 rw[List.find?_append,List.find?_cons_of_neg (by simpa using fun e:x.Id=v=>h e.symm),List.find?_nil,Option.or_none]
theorem Ed {xs:List ak} {x:ak} (h:∀ y∈xs,y.Id≠x.Id):aF (xs++[x]) x.Id=(x.F,true):=by
 unfold aF
 rw[List.find?_append,P5.2 fun y a=>by simpa using h y a]
 simp
theorem qU {xs:List ak} {v:Int} (h:(aF xs v).2=true):∃ x∈xs,x.Id=v∧aF xs v=(x.F,true):=by
 unfold aF at h ⊢
 split at h
 ·rename_i x a
  exact⟨x,K1 a,by simpa using List.find?_some a,rfl⟩
 ·cases h
theorem iE {xs:List ak}:∀ (ps:List az) (ids:List Int) (l:List aw),(be xs ps ids l).2=true→∀ v∈ids,(aF xs v).2=true
 | [],[],l,h,v,a=>by cases a
 | [],u :: ids,l,h,v,a=>by cases h
 | p :: ps,[],l,h,v,a=>by cases a
 | p :: ps,u :: ids,l,h,v,a=>by
  unfold be at h
  split at h
  ·rename_i c
   rcases hV.1 a with rfl | a
   ·exact c.1
   ·exact iE ps ids _ h v a
  ·cases h
theorem sM {xs ys:List ak}:∀ (ps:List az) (ids:List Int) (l:List aw),(∀ v∈ids,aF xs v=aF ys v)→be xs ps ids l=be ys ps ids l
 | [],[],l,h=>rfl
 | [],u :: ids,l,h=>rfl
 | p :: ps,[],l,h=>rfl
 | p :: ps,u :: ids,l,h=>by
  unfold be
  rw[h u OW,sM ps ids _ fun v a=>h v (by simp[a])]
theorem vl {xs:List ak} {y:Int}:∀ (ps:List az) (row:List Int) (l:List aw),(be xs (ps.take (row.length+1)) (row++[y]) l).2=true→(be xs (ps.take row.length) row l).2=true
 | [],row,l,h=>by cases row<;>simp[be] at h
 | p :: ps,[],l,h=>by simp[be]
 | p :: ps,v :: row,l,h=>by
  simp only[gj,P1,hS,be] at h ⊢
  split at h
  ·rename_i c
   rw[if_pos c]
   exact vl ps row _ h
  ·cases h
def okR (xs:List ak) (ps:List az) (r:List Int):Bool:=(okB xs ps r).2
theorem BX {xs:List ak} {ps:List az} {x:ak} {r:List Int} (h:x.Id ∉ r):okB (xs++[x]) ps r=okB xs ps r:=by
 unfold okB
 exact sM _ _ _ fun v a=>DS fun e=>h (e ▸ a)
theorem I0 {xs:List ak} {ps:List az} {x:ak} {A:Nat→List Int} (b:∀ y∈xs,y.Id≠x.Id)
  (c:∀ k p,ps[k]?=some p→∀ y∈xs++[x],dK (aX p) y.F=true→y.Id∈A k) (d:∀ k,k < ps.length→(A k).Nodup):AW (okR xs ps) (okR (xs++[x]) ps) x.Id A ps.length:=by
 have key:∀ r,okR xs ps r=true→x.Id ∉ r:=fun r h hm=>by
  have:=iE _ _ _ h x.Id hm
  rw[yi b] at this
  cases this
 refine⟨fun r h=>?_,fun r h hm=>?_,fun r y h=>?_,fun r y i h=>?_,d⟩
 ·have hk:=key r h
  exact⟨hk,by unfold okR;rw[BX hk];exact h⟩
 ·unfold okR at h ⊢
  rwa [BX hm] at h
 ·unfold okR okB at h ⊢
  rw[gk,gj,gm,ho] at h
  exact vl ps r [] h
 ·have f:=iE _ _ _ h y OW
  unfold okR okB at h
  rw[gk,gj,gm,ho] at h
  obtain⟨p,hp,a⟩:=qL ps r [] h
  obtain⟨z,g,rfl,e⟩:=qU f
  rw[e] at a
  exact c _ p hp z g a
def fy (l:List an):List (List Int):=l.map (·.Ids)
theorem vd {xs:List ak} {ps ns:List az} (row:List Int):∀ (ids:List Int),fy (gL xs ps ns row ids)=zP (okR xs ps) row ids
 | []=>rfl
 | v :: ids=>by
  have a:=vd (xs:=xs) (ps:=ps) (ns:=ns) row ids
  unfold gL fy zP at *
  rw[n0,rs,a,hL,j8]
  unfold oF
  by_cases h:(okB xs ps (row++[v])).2=true
  ·rw[if_pos h,if_pos (show okR xs ps (row++[v])=true from h)];rfl
  ·rw[if_neg h,if_neg (show ¬ okR xs ps (row++[v])=true from h)];rfl
theorem sm {xs:List ak} {ps ns:List az} (ids:List Int):∀ (B:List an),fy (B.flatMap fun t=>gL xs ps ns t.Ids ids)=(fy B).flatMap fun r=>zP (okR xs ps) r ids
 | []=>rfl
 | t :: B=>by
  have a:=sm (xs:=xs) (ps:=ps) (ns:=ns) ids B
  have h1:=vd (xs:=xs) (ps:=ps) (ns:=ns) t.Ids ids
  unfold fy at *
  rw[n0,rs,a,h1,hL,n0]
theorem Et {xs:List ak} {ps ns:List az} {id:Int} {k:Nat} {B F:List an} {A:List Int} {a b:List (List Int)} (d:k=0→a=[[]]∧b=[]) (hk:k≠0→a=fy B∧b=fy F):fy (jp xs ps ns id k B F A)=Cy (okR xs ps) id a b A:=by
 unfold jp Cy
 by_cases c:k=0
 ·obtain⟨rfl,rfl⟩:=d c
  rw[if_pos c,vd]
  simp
 ·obtain⟨rfl,rfl⟩:=hk c
  rw[if_neg c]
  have h1:=sm (xs:=xs) (ps:=ps) (ns:=ns) [id] B
  have e:=sm (xs:=xs) (ps:=ps) (ns:=ns) A F
  unfold fy at *
  rw[rs,h1,e]
theorem uZ {xs:List ak} {ps ns:List az} {id:Int} {A:Nat→List Int}:∀ (Ls:List ar) (k:Nat) (B F:List an) (a b:List (List Int)),(k=0→a=[[]]∧b=[])→(k≠0→a=fy B∧b=fy F)→(lS xs ps ns id A k Ls B F).map (fun L=>fy L.Toks)=xM (okR xs ps) id A k (Ls.map fun L=>fy L.Toks) a b
 | [],k,B,F,a,b,c,hk=>rfl
 | L :: Ls,k,B,F,a,b,c,hk=>by
  have hm:=Et (xs:=xs) (ps:=ps) (ns:=ns) (id:=id) (A:=A k) c hk
  have d:=uZ (xs:=xs) (ps:=ps) (ns:=ns) (id:=id) (A:=A) Ls (k+1) L.Toks (jp xs ps ns id k B F (A k)) (fy L.Toks) (Cy (okR xs ps) id a b (A k)) (fun e=>by omega) (fun _=>⟨rfl,hm.symm⟩)
  unfold lS
  rw[hL,hL,d,xM]
  congr 1
  unfold fy at *
  rw[rs,hm]
def iX (xs:List ak) (ps ns:List az) (k:Nat) (r:List Int):List Int:=if k+1=ps.length then eT xs ns (okB xs ps r).1 else []
theorem vv {xs:List ak} {ps ns:List az} {row ids:List Int}:∀ t∈gL xs ps ns row ids,t.Hits=iX xs ps ns row.length t.Ids:=by
 intro t a
 unfold gL at a
 obtain⟨v,_,h⟩:=jf.1 a
 unfold oF at h
 split at h
 ·simp only[j3] at h
  subst h
  rfl
 ·cases h
theorem DT {xs:List ak} {ps ns:List az} {id:Int} {k:Nat} {B F:List an} {A:List Int} (b:∀ t∈B,t.Ids.length=k) (c:∀ t∈F,t.Ids.length=k):∀ t∈jp xs ps ns id k B F A,t.Hits=iX xs ps ns k t.Ids:=by
 intro t a
 unfold jp at a
 split at a
 ·rename_i e;subst e;exact vv t a
 ·rcases gf.1 a with a | a
  ·obtain⟨u,hu,h⟩:=jf.1 a
   have:=vv t h
   rwa [b u hu] at this
  ·obtain⟨u,hu,h⟩:=jf.1 a
   have:=vv t h
   rwa [c u hu] at this
theorem uT {xs:List ak} {ps ns:List az} {id:Int} {A:Nat→List Int} (e:xs.length≤1048576):∀ (Ls:List ar) (k:Nat) (B F:List an),(∀ t∈B,t.Ids.length=k)→(∀ t∈F,t.Ids.length=k)→(∀ i L,Ls[i]?=some L→∀ t∈L.Toks,t.Ids.length=k+i+1∧t.Hits=iX xs ps ns (k+i) t.Ids) →
  ∀ i L,(lS xs ps ns id A k Ls B F)[i]?=some L→∀ t∈L.Toks,t.Hits=iX xs ps ns (k+i) t.Ids
 | [],k,B,F,b,c,d,i,L,h=>by simp[lS] at h
 | M :: Ls,k,B,F,b,c,d,i,L,h=>by
  have hm:=DT (xs:=xs) (ps:=ps) (ns:=ns) (id:=id) (A:=A k) b c
  have g:=B5 (xs:=xs) (ps:=ps) (ns:=ns) (id:=id) (A:=A k) e b c
  have f:=d 0 M rfl
  unfold lS at h
  cases i with
  | zero=>
   simp only[K4,Option.some.injEq] at h
   subst h
   intro t a
   rcases gf.1 a with a | a
   ·exact (f t a).2
   ·exact hm t a
  | succ i=>
   have:=uT (ps:=ps) (ns:=ns) (id:=id) (A:=A) e Ls (k+1) M.Toks _ (fun t a=>(f t a).1) (fun t a=>(g t a).1) (fun j N l=>by
    have:=d (j+1) N (by simpa using l)
    rwa [show k+(j+1)=k+1+j by omega] at this) i L (by simpa using h)
   rwa [show k+1+i=k+(i+1) by omega] at this
theorem yB {xs:List ak} {x:ak} {l:List aw} (b:xs.length≤1048576):∀ (ns:List az),kC x.F l 1 ns (eT xs ns l)=eT (xs++[x]) ns l
 | []=>rfl
 | p :: ns=>by
  have a:=yB (x:=x) (l:=l) b ns
  have h1:=vR p l xs
  unfold eT at a ⊢
  rw[hL,hL,kC,a]
  congr 1
  unfold ta
  rw[List.countP_append,List.countP_singleton]
  unfold ta at h1
  split
  ·rw[wr OV OV];omega
  ·simp
def wy (xs:List ak) (r:ah) (w:aH):Prop:=∀ k L,w.Levels[k]?=some L→Has (okR xs (pos r.Pats)) (k+1) (fy L.Toks)∧∀ t∈L.Toks,t.Hits=iX xs (pos r.Pats) (neg r.Pats) k t.Ids
theorem Has.len {p:List Int→Bool} {k:Nat} {l:List an} (h:Has p k (fy l)):∀ t∈l,t.Ids.length=k∧p t.Ids=true:=fun t a=>(h.iff t.Ids).1 (hG.2 ⟨t,a,rfl⟩)
theorem Dy {xs:List ak} {x:ak} {r:ah} {w:aH} (g:xs.length≤1048576) (i:∀ y∈xs,y.Id≠x.Id) (s:w.Levels.length=(pos r.Pats).length) (h:wy xs r w) :
  ∀ k L,(cZ (xs++[x]) (pos r.Pats) (neg r.Pats) x.F 1 w).Levels[k]?=some L→Has (okR xs (pos r.Pats)) (k+1) (fy L.Toks)∧∀ t∈L.Toks,t.Hits=iX (xs++[x]) (pos r.Pats) (neg r.Pats) k t.Ids:=by
 have key:∀ q,okR xs (pos r.Pats) q=true→okB (xs++[x]) (pos r.Pats) q=okB xs (pos r.Pats) q:=fun q j=>BX fun hm=>by
  have:=iE _ _ _ j x.Id hm
  rw[yi i] at this
  cases this
 have l:∀ k L,w.Levels[k]?=some L→k≠w.Levels.length - 1→Has (okR xs (pos r.Pats)) (k+1) (fy L.Toks)∧∀ t∈L.Toks,t.Hits=iX (xs++[x]) (pos r.Pats) (neg r.Pats) k t.Ids:=fun k L a hk=>by
  obtain⟨h1,c⟩:=h k L a
  refine⟨h1,fun t b=>?_⟩
  have:=(gI.1 a).1
  rw[c t b]
  unfold iX
  rw[if_neg OV,if_neg OV]
 intro k L a
 unfold cZ at a
 split at a
 ·rename_i M d
  simp only at a
  rw[K3] at a
  split at a
  ·rename_i e
   split at a
   ·simp only[Option.some.injEq] at a
    subst a
    subst e
    obtain⟨h1,c⟩:=h _ M d
    have v:=(gI.1 d).1
    refine⟨?_,fun t b=>?_⟩
    ·unfold fy at h1 ⊢
     rw[rC];exact h1
    ·simp only at b
     unfold jS at b
     obtain⟨u,hu,rfl⟩:=hG.1 b
     have m:=c u hu
     have f:=(Has.len h1 u hu).2
     have hk:=key _ f
     have n:(okB (xs++[x]) (pos r.Pats) u.Ids).2=true:=by rw[hk];exact f
     rw[if_pos n]
     simp only
     rw[m,hk]
     unfold iX
     rw[if_pos OV,if_pos OV,yB g,hk]
   ·cases a
  ·rename_i e
   exact l k L a fun o=>e o.symm
 ·rename_i p
  have:=Pk.1 p
  have:=(gI.1 a).1
  omega
theorem K9 {xs:List ak} {x:ak} {as:List bk} {r:ah} {c:aG} {w:aH} (u:xs.length+1≤1048576) (d:∀ y∈xs,y.Id≠x.Id) (f:w.Levels.length=(pos r.Pats).length)
  (g:∀ k p,(pos r.Pats)[k]?=some p→qG as c k=((xs++[x]).filter fun y=>dK (aX p) y.F).map (·.Id)) (l:((xs++[x]).map (·.Id)).Nodup) (h:wy xs r w):wy (xs++[x]) r (nw (xs++[x]) as x.F x.Id r c w):=by
 have j:=Dy (x:=x) OV d f h
 have hlen:(cZ (xs++[x]) (pos r.Pats) (neg r.Pats) x.F 1 w).Levels.length=w.Levels.length:=by unfold cZ;split<;>simp
 have G:=I0 (xs:=xs) (ps:=pos r.Pats) (x:=x) (A:=qG as c) d
  (fun k p hp y m n=>by rw[g k p hp];exact hG.2 ⟨y,l0.2 ⟨m,n⟩,rfl⟩)
  (fun k hk=>by
   rw[g k _ (gx hk)]
   exact List.Nodup.sublist (List.Sublist.map _ (List.filter_sublist)) l)
 have o:okR xs (pos r.Pats) []=true:=by unfold okR okB;simp[be]
 have e:=uZ (xs:=xs++[x]) (ps:=pos r.Pats) (ns:=neg r.Pats) (id:=x.Id) (A:=qG as c) (cZ (xs++[x]) (pos r.Pats) (neg r.Pats) x.F 1 w).Levels 0 [] [] [[]] [] (fun _=>⟨rfl,rfl⟩) (fun e=>absurd rfl e)
 have q:=AT G o (Ls:=(cZ (xs++[x]) (pos r.Pats) (neg r.Pats) x.F 1 w).Levels.map fun L=>fy L.Toks) (by rw[p4,hlen,f];exact hA _) (fun i L a=>by
  rw[nn,w2] at a
  obtain⟨M,b,rfl⟩:=a
  exact (j i M b).1)
 intro k L a
 refine⟨q k _ ?_,?_⟩
 ·rw[← e,nn]
  unfold nw at a
  rw[show (lS (xs++[x]) (pos r.Pats) (neg r.Pats) x.Id (qG as c) 0 (cZ (xs++[x]) (pos r.Pats) (neg r.Pats) x.F 1 w).Levels [] [])[k]?=some L from a]
  rfl
 ·have:=uT (xs:=xs++[x]) (ps:=pos r.Pats) (ns:=neg r.Pats) (id:=x.Id) (A:=qG as c) (by simp;omega) (cZ (xs++[x]) (pos r.Pats) (neg r.Pats) x.F 1 w).Levels 0 [] [] OW OW (fun i M b t hm=>by
   obtain⟨h1,s⟩:=j i M b
   rw[ho]
   exact⟨(Has.len h1 t hm).1,s t hm⟩) k L a
  rwa [ho] at this
def oI (n:bH) (xs:List ak):List bk:=n.Alphas.map fun a=>⟨(xs.filter fun x=>dK a x.F).map (·.Id)⟩
theorem AB {x:ak} {xs:List ak}:∀ (as:List ax),cS x.F x.Id as (as.map fun a=>⟨(xs.filter fun x=>dK a x.F).map (·.Id)⟩)=as.map fun a=>⟨((xs++[x]).filter fun x=>dK a x.F).map (·.Id)⟩
 | []=>rfl
 | a :: as=>by
  rw[hL,hL,cS,AB as]
  congr 1
  rw[List.filter_append,j8]
  cases dK a x.F<;>simp
structure rF (d:bf) (n:bH) (xs:List ak) (m:aJ):Prop where
 al:m.Alphas=oI n xs
 rows:∀ (i:Nat) (r:ah) (w:aH),d.Rules[i]?=some r→m.Rules[i]?=some w→wy xs r w
theorem Ix {d:bf} {n:bH} {m:aJ} {xs:List ak} {x:ak} {nx:Int} {j:Nat} (C:xs.length+1≤1048576) (b:((xs++[x]).map (·.Id)).Nodup) (q:Ats n.Alphas n.Chains d.Rules) (f:m3 d n j m) (h:rF d n xs m):rF d n (xs++[x]) (xf d n m ⟨xs++[x],nx⟩ x.Id):=by
 have s:∀ y∈xs,y.Id≠x.Id:=fun y D e=>by
  rw[rs,p7] at b
  exact b.2.2 y.Id (hG.2 ⟨y,D,rfl⟩) x.Id OW e
 have t:=Ed s
 have u:cS x.F x.Id n.Alphas m.Alphas=oI n (xs++[x]):=by rw[h.al];exact AB n.Alphas
 have E:=sv (g:=nw (xs++[x]) (cS x.F x.Id n.Alphas m.Alphas) x.F x.Id) d.Rules n.Chains m.Rules f.lr.symm (by rw[q.len,f.lr])
 refine⟨?_,fun i r v a l=>?_⟩
 ·unfold xf
  simp only[t]
  exact u
 ·unfold xf at l
  simp only[t] at l
  obtain⟨O,c,w,z,a2,a3,rfl⟩:=E.2 i v l
  rw[a] at z
  cases z
  refine K9 C s (f.rows i r w a a3).1 (fun k p hp=>?_) b (h.rows i r w a a3)
  obtain⟨F,G⟩:=gI.1 a
  obtain⟨H,I⟩:=gI.1 a2
  have o:=(q.get i H F).1
  rw[I,G] at o
  obtain⟨A,K⟩:=gI.1 hp
  have B:k < c.Pos.length:=by rw[o.len];exact A
  have L:=o.get k B A
  obtain⟨a0,_,M⟩:=a8 L
  have N:idx (cS x.F x.Id n.Alphas m.Alphas) c.Pos[k]=some ⟨((xs++[x]).filter fun y=>dK (aX p) y.F).map (·.Id)⟩:=by
   rw[u]
   unfold idx oI
   rw[if_pos a0,nn,M,← K]
   rfl
  exact (ub (ag B) N).symm
def gB (id:Int) (xs:List ak):List ak:=xs.filter fun y=>!decide (y.Id=id)
theorem yY {id v:Int} (h:v≠id):∀ (xs:List ak),aF (gB id xs) v=aF xs v
 | []=>rfl
 | y :: t=>by
  have a:=yY h t
  unfold gB at a ⊢
  rw[j8]
  by_cases c:y.Id=id
  ·rw[decide_eq_true c,hI,if_neg OW,a,jG,if_neg OV]
  ·rw[decide_eq_false c,hW,if_pos rfl,jG,jG,a]
theorem xZ {id:Int} {xs:List ak} {ps:List az} {q:List Int} (h:id ∉ q):okB (gB id xs) ps q=okB xs ps q:=by
 unfold okB
 exact sM _ _ _ fun v a=>yY (fun e=>h (by rw[← e];exact a)) xs
theorem yg {id:Int} {xs:List ak} {ps:List az} (q:List Int):okR (gB id xs) ps q=true↔okR xs ps q=true∧id ∉ q:=by
 unfold okR
 constructor
 ·intro h
  have a:id ∉ q:=fun b=>by
   obtain⟨x,c,e,_⟩:=qU (iE _ _ _ h id b)
   have:=(l0.1 c).2
   simp[e] at this
  rw[xZ a] at h
  exact⟨h,a⟩
 ·rintro⟨h,a⟩
  rw[xZ a];exact h
theorem BH {x:ak} (P:ak→Bool):∀ (xs:List ak),(xs.map (·.Id)).Nodup→x∈xs→xs.countP P=(gB x.Id xs).countP P+if P x=true then 1 else 0
 | [],_,h=>by cases h
 | y :: t,a,h=>by
  rw[hL,List.nodup_cons] at a
  unfold gB
  rw[j8]
  rcases hV.1 h with rfl | h
  ·have e:(t.filter fun y=>!decide (y.Id=x.Id))=t:=List.filter_eq_self.2 fun z d=>by
    have:z.Id≠x.Id:=fun e=>a.1 (hG.2 ⟨z,d,e⟩)
    simp[this]
   rw[decide_eq_true rfl,hI,if_neg OW,e,P6]
  ·have c:y.Id≠x.Id:=fun e=>a.1 (hG.2 ⟨x,h,e.symm⟩)
   have b:=BH P t a.2 h
   unfold gB at b
   rw[decide_eq_false c,hW,if_pos rfl,P6,P6,b]
   omega
theorem Az {xs:List ak} {x:ak} {l:List aw} (e:xs.length≤1048576) (a:(xs.map (·.Id)).Nodup) (hm:x∈xs):∀ (ns:List az),kC x.F l (-1) ns (eT xs ns l)=eT (gB x.Id xs) ns l
 | []=>rfl
 | p :: ns=>by
  have b:=Az (l:=l) e a hm ns
  have h1:=vR p l xs
  unfold eT at b ⊢
  rw[hL,hL,kC,b]
  congr 1
  have d:=BH (fun y=>(bz p y.F l).2) xs a hm
  unfold ta at h1 ⊢
  split
  ·rename_i c
   simp only[c,if_true] at d
   rw[wr OV OV];omega
  ·rename_i c
   simp only[c,gb,if_false] at d
   omega
theorem Ds (id:Int) (l:List an):fy (jQ id l)=(fy l).filter fun r=>!decide (id∈r):=by
 unfold fy jQ
 rw[List.filter_map];rfl
theorem GR {xs:List ak} {x:ak} {r:ah} {w:aH} (f:xs.length≤1048576) (g:(xs.map (·.Id)).Nodup) (hm:x∈xs) (y:w.Levels.length=(pos r.Pats).length) (h:wy xs r w):wy (gB x.Id xs) r (jO xs x.F x.Id r w):=by
 have base:∀ (k:Nat) (M:ar),(w.Levels.map (iw x.Id))[k]?=some M→Has (okR (gB x.Id xs) (pos r.Pats)) (k+1) (fy M.Toks)∧∀ t∈M.Toks,t.Hits=iX xs (pos r.Pats) (neg r.Pats) k t.Ids∧x.Id ∉ t.Ids∧okR xs (pos r.Pats) t.Ids=true:=fun k M b=>by
  simp only[nn,w2] at b
  obtain⟨L,a,rfl⟩:=b
  obtain⟨h1,d⟩:=h k L a
  refine⟨?_,fun t c=>?_⟩
  ·show Has _ _ (fy (jQ x.Id L.Toks))
   rw[Ds]
   exact Iw (fun q=>yg q) h1
  ·have hm:=l0.1 c
   exact⟨d t hm.1,by simpa using hm.2,(Has.len h1 t hm.1).2⟩
 have i:∀ (k:Nat) (M:ar),(w.Levels.map (iw x.Id))[k]?=some M→k≠w.Levels.length - 1→Has (okR (gB x.Id xs) (pos r.Pats)) (k+1) (fy M.Toks)∧∀ t∈M.Toks,t.Hits=iX (gB x.Id xs) (pos r.Pats) (neg r.Pats) k t.Ids:=fun k M b hk=>by
  obtain⟨h1,d⟩:=base k M b
  have:=(gI.1 b).1
  simp only[p4] at this
  refine⟨h1,fun t c=>?_⟩
  rw[(d t c).1]
  unfold iX
  rw[if_neg OV,if_neg OV]
 intro k L a
 unfold jO cZ at a
 simp only[p4] at a
 split at a
 ·rename_i M b
  simp only at a
  rw[K3] at a
  split at a
  ·rename_i e
   split at a
   ·simp only[Option.some.injEq] at a
    subst a
    subst e
    obtain⟨h1,d⟩:=base _ M b
    have j:=(gI.1 b).1
    simp only[p4] at j
    refine⟨?_,fun t c=>?_⟩
    ·unfold fy at h1 ⊢
     rw[rC];exact h1
    ·simp only at c
     unfold jS at c
     obtain⟨u,hu,rfl⟩:=hG.1 c
     obtain⟨l,m,n⟩:=d u hu
     have o:(okB xs (pos r.Pats) u.Ids).2=true:=n
     rw[if_pos o]
     simp only
     rw[l]
     unfold iX
     rw[if_pos OV,if_pos OV,Az f g hm,xZ m]
   ·cases a
  ·rename_i e
   exact i k L a fun p=>e p.symm
 ·rename_i s
  have:=Pk.1 s
  have v:=(gI.1 a).1
  simp only[p4] at this v
  omega
theorem Ea (n:bH) (id:Int) (xs:List ak):(oI n xs).map (xV id)=oI n (gB id xs):=by
 unfold oI
 rw[List.map_map]
 refine List.map_congr_left fun a _=>?_
 unfold xV gB
 simp only[Function.comp,bk.mk.injEq]
 rw[List.filter_map,List.filter_filter,List.filter_filter]
 congr 1
 refine List.filter_congr fun y _=>?_
 simp only[Function.comp,Bool.and_comm]
theorem EF {d:bf} {n:bH} {m:aJ} {xs:List ak} {x:ak} {nx:Int} {j:Nat} (o:xs.length≤1048576) (a:(xs.map (·.Id)).Nodup) (hm:x∈xs) (f:m3 d n j m) (h:rF d n xs m):rF d n (gB x.Id xs) (tv d m ⟨xs,nx⟩ x.Id):=by
 have p:aF xs x.Id=(x.F,true):=by
  have:∀ (l:List ak),(l.map (·.Id)).Nodup→x∈l→aF l x.Id=(x.F,true):=by
   intro l
   induction l with
   | nil=>intro _ h;cases h
   | cons y t q=>
    intro a h
    rw[hL,List.nodup_cons] at a
    rw[jG]
    rcases hV.1 h with rfl | h
    ·rw[if_pos rfl]
    ·rw[if_neg fun e=>a.1 (hG.2 ⟨x,h,e.symm⟩)]
     exact q a.2 h
  exact this xs a hm
 have s:=vq (g:=jO xs x.F x.Id) d.Rules m.Rules f.lr.symm
 refine⟨?_,fun i r v b c=>?_⟩
 ·unfold tv
  simp only
  rw[h.al]
  exact Ea n x.Id xs
 ·unfold tv at c
  simp only[p] at c
  obtain⟨u,w,k,a3,rfl⟩:=s.2 i v c
  rw[b] at k
  cases k
  exact GR o a hm (f.rows i r w b a3).1 (h.rows i r w b a3)
theorem y8 {α β:Type} {f:α→β→Bool}:∀ (xs:List α) (ys:List β),xs.length=ys.length→(∀ (i:Nat) (x:α) (y:β),xs[i]?=some x→ys[i]?=some y→f x y=true)→nN f xs ys=true
 | [],[],_,_=>rfl
 | [],_ :: _,h,_=>by simp at h
 | _ :: _,[],h,_=>by simp at h
 | x :: xs,y :: ys,h,c=>by
  unfold nN
  rw[c 0 x y rfl rfl,y8 xs ys (by simpa using h) fun i a b d e=>c (i+1) a b (by simpa using d) (by simpa using e)]
  rfl
theorem K0 {d:bf} {n:bH} {m x:aJ} {xs:List ak} {j k:Nat} (hm:m3 d n j m) (g:m3 d n k x) (h:rF d n xs m) (o:rF d n xs x):EA m x=true:=by
 unfold EA
 rw[ha]
 refine⟨y8 _ _ (by rw[hm.la,g.la]) fun i a b c e=>?_,y8 _ _ (by rw[hm.lr,g.lr]) fun i v w c e=>?_⟩
 ·rw[h.al] at c
  rw[o.al,c] at e
  cases e
  exact decide_eq_true rfl
 ·have G:=(gI.1 c).1
  have f:d.Rules[i]?=some (d.Rules[i]'(by have:=hm.lr;omega)):=gx _
  obtain⟨p,_⟩:=hm.rows i _ v f c
  obtain⟨s,_⟩:=g.rows i _ w f e
  have u:=h.rows i _ v f c
  have y:=o.rows i _ w f e
  unfold oZ
  refine y8 _ _ (by rw[p,s]) fun q L M z A=>?_
  obtain⟨B,a2⟩:=u q L z
  obtain⟨C,D⟩:=y q M A
  unfold tj
  refine decide_eq_true ?_
  have form:∀ (l:List an),(∀ t∈l,t.Hits=iX xs (pos (d.Rules[i]'(by have:=hm.lr;omega)).Pats) (neg (d.Rules[i]'(by have:=hm.lr;omega)).Pats) q t.Ids)→l=(fy l).map fun r=>⟨r,iX xs (pos (d.Rules[i]'(by have:=hm.lr;omega)).Pats) (neg (d.Rules[i]'(by have:=hm.lr;omega)).Pats) q r⟩:=fun l E=>by
   unfold fy
   rw[List.map_map]
   conv=>lhs;rw[← List.map_id l]
   refine List.map_congr_left fun t F=>?_
   have:=E t F
   cases t
   simp only at this
   simp[this]
  rw[form L.Toks a2,form M.Toks D]
  exact (Has.perm B C).map _
theorem NO {d:bf} {n:bH} {nx:Int} (a:Ats n.Alphas n.Chains d.Rules):∀ (rest done:List ak) (m:aJ),done.length+rest.length≤40→((done++rest).map (·.Id)).Nodup→m3 d n done.length m→rF d n done m→rF d n (done++rest) (vw d n nx done rest m)
 | [],done,m,_,_,b,h=>by simpa[vw] using h
 | x :: t,done,m,e,c,b,h=>by
  simp only[gj] at e
  have f:((done++[x]).map (·.Id)).Nodup:=by
   refine List.Nodup.sublist (List.Sublist.map _ ?_) c
   simp
  have h1:=tD (s:=⟨done++[x],nx⟩) (id:=x.Id) OV (by simp;omega) a.len b
  have g:=Ix (nx:=nx) OV f a b h
  have:=NO (nx:=nx) a t (done++[x]) _ (by simp;omega) (by simpa using c) (by simpa using h1) g
  unfold vw
  simpa using this
theorem Lm {d:bf} {n:bH}:rF d n [] (lM n):=by
 unfold lM
 refine⟨?_,fun i r w g a=>?_⟩
 ·unfold oI
  refine List.ext_getElem OW fun i h1 h=>by simp
 ·simp only[nn,w2] at a
  obtain⟨c,j,rfl⟩:=a
  intro k L b
  simp only[rO] at b
  obtain⟨_,e⟩:=gI.1 b
  rw[Pe] at e
  subst e
  refine⟨⟨by simp[fy],fun q=>?_⟩,OW⟩
  simp only[fy,rr,List.not_mem_nil,false_iff,not_and]
  intro f hk
  have:=iE _ _ _ hk
  cases q with
  | nil=>simp at f
  | cons v q=>
   have:=this v OW
   simp[aF] at this
theorem Lu {nx:Int}:∀ (t done:List ak),o4 nx done t=true→(done.Pairwise fun a b=>a.Id < b.Id)→(done++t).Pairwise fun a b=>a.Id < b.Id
 | [],done,_,h=>by simpa using h
 | x :: t,done,e,h=>by
  unfold o4 at e
  simp only[ha] at e
  have d:=e.2.1
  have g:(done++[x]).Pairwise fun a b=>a.Id < b.Id:=by
   rw[p5]
   refine⟨h,OW,fun a c b f=>?_⟩
   simp only[j3] at f
   subst f
   unfold mB at d
   rcases Ph done with rfl | ⟨q,y,rfl⟩
   ·cases c
   ·rw[Pj] at c d h
    rw[List.getLast?_concat] at d
    have d:=of_decide_eq_true d
    rcases gf.1 c with c | c
    ·have:=(p5.1 h).2.2 a c y OW
     omega
    ·simp only[j3] at c
     subst c;exact d
  have:=Lu t (done++[x]) e.2.2.2 g
  simpa using this
theorem lN {s:ae} (h:fx s=true):(s.Items.map (·.Id)).Nodup:=by
 unfold fx at h
 simp only[ha] at h
 have:=Lu s.Items [] h.2.2 OW
 rw[hz] at this
 unfold List.Nodup
 rw[List.pairwise_map]
 exact this.imp fun h=>by omega
theorem JZ {d:bf} {xs:List ak} {x:aJ} {j:Nat} (v:Ats (bB d).Alphas (bB d).Chains d.Rules) (a:m3 d (bB d) j x) (A:rF d (bB d) xs x) (hp:∀ r∈d.Rules,1≤(pos r.Pats).length):xd (bB d) x=true:=by
 have g:=v.len
 unfold xd
 rw[decide_eq_true a.la,decide_eq_true (by rw[a.lr,g])]
 simp only[hZ]
 have key:∀ (i:Nat) (c:aG) (w:aH),(bB d).Chains[i]?=some c→x.Rules[i]?=some w→w5 c w=true:=fun i c w m b=>by
  obtain⟨h1,B⟩:=gI.1 m
  have n:i < d.Rules.length:=by rw[← g];exact h1
  have o:=v.get i h1 n
  rw[B] at o
  have y:=a.rows i _ w (gx n) b
  have C:=A.rows i _ w (gx n) b
  have D:c.Pos.length=(pos d.Rules[i].Pats).length:=o.1.len
  have E:c.Neg.length=(neg d.Rules[i].Pats).length:=o.2.len
  unfold w5
  rw[decide_eq_true (by rw[y.1,D])]
  simp only[hZ]
  have:∀ (l:List ar) (k:Nat),(∀ q L,l[q]?=some L→w.Levels[k+q]?=some L)→Cc c k l=true:=by
   intro l
   induction l with
   | nil=>intro k _;rfl
   | cons L l p=>
    intro k hk
    have s:=hk 0 L rfl
    rw[jt] at s
    obtain⟨I,a2⟩:=y.2 k L s
    obtain⟨K,F⟩:=C k L s
    unfold Cc
    rw[p (k+1) fun q M u=>by
     have:=hk (q+1) M (by simpa using u)
     rwa [show k+(q+1)=k+1+q by omega] at this,Bool.and_true,List.all_eq_true]
    intro t z
    have N:=(a2 t z).1
    have G:=F t z
    unfold yj
    rw[G]
    unfold iX
    by_cases e:k+1=(pos d.Rules[i].Pats).length
    ·rw[if_pos e,if_pos OV,decide_eq_true OV,decide_eq_true (by rw[E];simp[eT])];rfl
    ·rw[if_neg e,if_neg OV,decide_eq_true OV];rfl
  exact this w.Levels 0 fun q L u=>by rw[ho];exact u
 have gen:∀ (cs:List aG) (ws:List aH),cs.length=ws.length→(∀ (i:Nat) (c:aG) (w:aH),cs[i]?=some c→ws[i]?=some w→w5 c w=true)→nN w5 cs ws=true:=by
  intro cs
  induction cs with
  | nil=>
   intro ws f _
   cases ws with
   | nil=>rfl
   | cons=>simp at f
  | cons c cs p=>
   intro ws f h
   cases ws with
   | nil=>simp at f
   | cons w ws=>
    unfold nN
    rw[h 0 c w rfl rfl,p ws (by simpa using f) fun i H w' m b=>h (i+1) H w' (by simpa using m) (by simpa using b)]
    rfl
 exact gen _ _ (by rw[g,a.lr]) key
theorem zq {nx:Int} {l:List ak} (h:o5 nx l):(l.map (·.Id)).Nodup:=by
 unfold List.Nodup
 rw[List.pairwise_map]
 exact h.2.2.2.imp fun {a b} q e=>by have:=q.1;omega
theorem sf {nx:Int} {l:List ak} (h:o5 nx l):pJ l:=h.2.2.2.imp fun q=>q.1
theorem yo {s:ae} (h:o5 s.Next s.Items) (d:s.Next≤40):fx s=true:=by
 obtain⟨a,e,b,c⟩:=h
 unfold fx
 rw[decide_eq_true a,decide_eq_true (show s.Next≤1000000 by omega),decide_eq_true (show s.Items.length≤40 by omega),CS s.Items [] b (by simpa using c)];rfl
theorem E9 {N:Nat} (m:1099000000000≤N) (l:List ak) (nx:Int) (f:aL) (i:tK f) (h:o5 nx l) (s:nx≤100) (t:Bc l f=0) (u:l.length < 40):mO N ⟨l,nx⟩ f=some (nx,⟨l++[⟨nx,f⟩],nx+1⟩)∧o5 (nx+1) (l++[⟨nx,f⟩]):=by
 obtain⟨h1,v,d,n⟩:=h
 have o:=fun x c=>(d x c).2.2.2.1
 unfold mO
 rw[IQ m ⟨l,nx⟩ f (by show l.length≤_;omega) (fun x c=>by have:=o x c;omega)]
 simp only[fI]
 have hp : ¬ 0 < Bc l f:=by omega
 simp only[hp,decide_false,gb,if_false]
 have p:∀ x∈l,x.F≠f:=by
  intro x c e
  apply hp
  unfold Bc
  cases g:l.find? (fun x=>decide (x.F=f)) with
  | none=>
   rw[P5] at g
   have:=g x c
   simp[e] at this
  | some y=>
   have:=(d y (K1 g)).1
   simp only;omega
 have q : ¬ (40:Int)≤(l.length:Int):=by omega
 have hm : ¬ (1000000:Int)≤nx:=by omega
 simp only[q,hm,decide_false,gb,if_false,fI]
 have r:kO N f=some f:=by
  unfold kO
  rw[gD (show f.Fields.length≤4294967296 by have:=i.2.1;omega)];rfl
 simp only[r,fI,bV (show l.length+[(⟨nx,f⟩:ak)].length≤4294967296 by simp;omega)]
 rw[wr (show -9223372036854775808≤nx+1 by omega) OV,wr (show -9223372036854775808≤nx+1 - 1 by omega) OV,show nx+1 - 1=nx by omega]
 refine⟨rfl,OV,by simp;omega,?_,?_⟩
 ·refine pN (fun x c=>?_) ⟨OV,by simp only;omega,i⟩
  have:=d x c
  exact⟨this.1,OV,this.2.2⟩
 ·refine p5.2 ⟨n,OW,fun a j b k=>?_⟩
  simp at k;subst k
  exact⟨(d a j).2.1,p a j⟩
structure Nq (b:List Int) (B:Int) (d:bf) (m:aJ) (s:ae) (c:ab):Prop where
 g:GC b c
 def_:Dc d
 mem:∃ j:Nat,(j:Int)≤B∧m3 d (bB d) j m
 nx:s.Next≤B+1
 it:o5 s.Next s.Items
 has:rF d (bB d) s.Items m
theorem Mx {N:Nat} (a:1099000000000≤N) {b:List Int} (r:b.length≤1048576) {c:ab} (g:GC b c):∃ d m s p,oK N c=some (d,bB d,m,s,p)∧Nq b 9 d m s p:=by
 unfold oK
 obtain⟨d,c1,V,g1,A⟩:=NJ a r g
 have B:=Co A
 have Q:=CZ (CA A)
 have C:=jh B
 obtain⟨⟨W,z2⟩,z3,z4⟩:=rA C
 have D:=(oH C).2.1
 have X:=ym D
 have Y:rF d (bB d) [] (lM (bB d)):=Lm
 obtain⟨v,c2,Z,g2,hv⟩:=nh (N:=N) r (g1.at (c:=c) g.1) 10 OV
 simp only[V,fI,Na a d C,HX a (bB d) W z3 (fun c hc=>(z4 c hc).1),Z]
 have lp:∀ (n:Nat) (m:aJ) (l:List ak) (k x h nx:Int) (j:Nat),0≤k→k < n→(j:Int)+k≤9→nx+k≤10→m3 d (bB d) j m→rF d (bB d) l m→o5 nx l→GC b ⟨c.b,x,h⟩ →
   ∃ R s p,gn N c (d,c1) (bB d) n m.Alphas m.Rules l k x h nx=some (d,bB d,R,s,p)∧Nq b 9 d R s p:=by
  intro n
  induction n with
  | zero=>intro m l k x h nx j h0 h1;omega
  | succ n E=>
   intro m l k x h nx j h0 h1 h2 h3 hm u o F
   simp only[gn]
   by_cases hk:0 < k
   ·have G:decide (0 < k)=true:=decide_eq_true hk
    have hlen:=o.2.1
    have S:=xA o
    obtain⟨q,e,e3,ge,-⟩:=tW (N:=N) r F 4
    have z:=ge.at (c:=⟨c.b,x,h⟩) F.1
    simp only[G,if_true,e3,fI]
    by_cases T:q=true∧0 < l.length
    ·have H:(if q=true then some (decide (0 < (l.length:Int))) else some false)=some true:=by
      rw[T.1,decide_eq_true (show (0:Int) < (l.length:Int) by omega)];rfl
     obtain⟨w,e4,I,K,hw⟩:=nh (N:=N) r z (l.length:Int) OV
     obtain⟨i,rfl⟩:∃ i:Nat,w=(i:Int):=⟨w.toNat,OV⟩
     obtain⟨q',L⟩:=LT a ⟨l,nx⟩ l[i].Id (show l.length≤1048576 by omega)
     have ok:=AE (s:=⟨l,nx⟩) (id:=l[i].Id) B Q (show l.length≤40 by omega) (fun y t=>by have:=S y t;omega) OV hm
     have M:=Jv a d m ⟨l,nx⟩ l[i].Id ok
     simp only[H,fI,if_true,I,ag (show i < l.length by omega),show (⟨m.Alphas,m.Rules⟩:aJ)=m from rfl,M,L,wrm hk (show k≤4611686018427387904 by omega)]
     have a7:=py (fun x:ak=>!decide (x.Id=l[i].Id)) l
     exact E (tv d m ⟨l,nx⟩ l[i].Id) (l.filter fun x=>!decide (x.Id=l[i].Id)) (k - 1) _ _ nx j OV OV OV OV (AG hm) (EF (x:=l[i]) (show l.length≤1048576 by omega) (zq o) (hK (show i < l.length by omega)) hm u) ⟨o.1,OV,fun y t=>o.2.2.1 y (l0.1 t).1,o.2.2.2.filter _⟩ (K.at (c:=⟨c.b,e.i,e.h⟩) z.1)
    ·have H:(if q=true then some (decide (0 < (l.length:Int))) else some false)=some false:=by
      cases q with
      | false=>rfl
      | true=>
       have : ¬ 0 < l.length:=fun h=>T ⟨rfl,h⟩
       rw[decide_eq_false (show ¬ (0:Int) < (l.length:Int) by omega)];rfl
     obtain⟨f,e4,I,K,hf⟩:=MA a r z
     have U:=K.at (c:=⟨c.b,e.i,e.h⟩) z.1
     simp only[H,fI,gb,if_false,I,IQ a ⟨l,nx⟩ f (by show l.length≤_;omega) (fun x hx=>by have:=S x hx;omega)]
     by_cases O:Bc l f=0
     ·obtain⟨L,P⟩:=E9 a l nx f hf o OV O OV
      have a1:=xA P
      have a8:(l++[(⟨nx,f⟩:ak)]).length=l.length+1:=by simp
      have ok:=vX (s:=⟨l++[⟨nx,f⟩],nx+1⟩) (id:=nx) B Q (show (l++[(⟨nx,f⟩:ak)]).length≤40 by omega) (fun y t=>by have:=a1 y t;omega) OV hm
      have M:=Ni a d (bB d) m ⟨l++[⟨nx,f⟩],nx+1⟩ nx ok
      have a6:=zq P
      simp only[O,decide_true,if_true,L,fI,show (⟨m.Alphas,m.Rules⟩:aJ)=m from rfl,M,wrm hk (show k≤4611686018427387904 by omega)]
      exact E (xf d (bB d) m ⟨l++[⟨nx,f⟩],nx+1⟩ nx) (l++[⟨nx,f⟩]) (k - 1) _ _ (nx+1) (j+1) OV OV OV OV (tD OV (show (l++[(⟨nx,f⟩:ak)]).length≤1048576 by omega) D.len hm) (Ix (x:=⟨nx,f⟩) OV a6 D hm u) P U
     ·simp only[O,decide_false,gb,if_false,wrm hk (show k≤4611686018427387904 by omega)]
      exact E m l (k - 1) _ _ nx j OV OV OV OV hm u o U
   ·have G:decide (0 < k)=false:=decide_eq_false hk
    simp only[G,gb,if_false]
    exact⟨m,⟨l,nx⟩,_,rfl,F,A,⟨j,OV,hm⟩,by show nx≤_;omega,o,u⟩
 obtain⟨m,s,p,e9,h9⟩:=lp N (lM (bB d)) [] v c2.i c2.h 1 0 hv.1 OV OV OV X Y ⟨OV,OW,OW,OW⟩ (g2.at (c:=⟨c.b,c1.i,c1.h⟩) g.1)
 exact⟨d,m,s,p,e9,h9⟩
theorem Jn {N:Nat} (f:aL) (h:f.Fields.length≤4294967296):iP N f=some f:=by
 unfold iP eE
 rw[gD h];rfl
theorem Kp {N:Nat} (b:1099000000000≤N) (s:ae) (c:s.Items.length≤1048576) (d:∀ x∈s.Items,x.F.Fields.length≤1048576):lU N s=some s:=by
 unfold lU
 refine (lp' b s.Items OV (fun n (u:List ak) i=>fE N s n u i) (fun t u=>some ⟨u++t,s.Next⟩) (fun u t=>u.length+t.length≤1048576) [] (by simpa using c) (fun n u i v t g1 g2 g3 g4 g5 g6 a e=>?_) (fun n u i g1 g2 a=>?_)).trans OW
 ·simp only[gj] at a
  simp only[fE,g5,if_true,g4,fI,Jn v.F (by have:=d v g2;omega),bV (show u.length+[v].length≤4294967296 by simp;omega),show (⟨v.Id,v.F⟩:ak)=v from rfl,g6]
  rw[e _ (by simp;omega)]
  simp
 ·simp only[fE,g2,gb,if_false,ix]
theorem Oj {N:Nat} (x y:List Int) (f:x.length=y.length) (hm:x.length≤1048576):∀ n i:Nat,i≤x.length→x.length - i < n→∃ c,bU N x y n i=some c∧decide (c < 0)=jB (x.drop i) (y.drop i):=by
 intro n
 induction n with
 | zero=>intro i _ h;omega
 | succ n e=>
  intro i g j
  simp only[bU]
  by_cases b:i < x.length
  ·have d:i < y.length:=by omega
   have c1:decide ((i:Int) < (x.length:Int))=true:=decide_eq_true OV
   have c2:decide ((y.length:Int)≤(i:Int))=false:=decide_eq_false OV
   rw[hy b,hy d,jB]
   simp only[c1,c2,if_true,gb,if_false,ag b,ag d,fI,BQ,wr1 i OV]
   by_cases he:x[i]=y[i]
   ·have a:cmp y[i] y[i]=0:=by unfold cmp;simp
    simp only[a,he,decide_true,hI,gb,if_false,if_true]
    exact e (i+1) OV OV
   ·have a:cmp x[i] y[i]≠0:=by unfold cmp;split<;>(try split)<;>omega
    simp only[a,he,decide_false,hW,if_true,if_false]
    refine⟨_,rfl,?_⟩
    rw[decide_eq_decide]
    unfold cmp;split<;>(try split)<;>omega
  ·have c1:decide ((i:Int) < (x.length:Int))=false:=decide_eq_false OV
   have c2:decide ((x.length:Int) < (y.length:Int))=false:=decide_eq_false OV
   simp only[c1,c2,gb,if_false]
   rw[hB OV,hB OV]
   exact⟨0,rfl,rfl⟩
theorem Ny {N:Nat} (d:1048578≤N) (x y:List Int) (f:x.length≤1048576):cz N x y=some (decide (x=y)):=by
 unfold cz
 by_cases c:x.length=y.length
 ·rw[if_neg (by simp;omega)]
  refine (rj (d7 N x y) x y c OV (fun a b=>some (decide (a=b))) (fun a _ b _=>rfl) (fun k i=>rfl) N 0 OV OV).trans ?_
  simp
 ·rw[if_pos (by simp;omega)]
  have : ¬ x=y:=fun e=>c (by rw[e])
  simp[this]
def un (x y:a7):Bool:=decide (x.Rule=y.Rule) && decide (x.Ids=y.Ids)
theorem LW {N:Nat} (a:1048578≤N) (x y:a7) (h:x.Ids.length≤1048576):lW N x y=some (un x y):=by
 unfold lW un
 simp only[Ny a _ _ h,fI,t8]
theorem CQ (x y:a7):(mN x y || mN y x) = !un x y:=by
 unfold mN un
 by_cases b:x.Rule=y.Rule
 ·by_cases a:x.Ids.length=y.Ids.length
  ·simp only[b,a,if_true,decide_true,hZ];exact Fk _ _ a
  ·have c : ¬ y.Ids.length=x.Ids.length:=fun e=>a e.symm
   have d : ¬ x.Ids=y.Ids:=fun e=>a (by rw[e])
   simp only[b,a,c,d,if_true,if_false,decide_true,decide_false,hZ,hW]
   rw[← Bool.decide_or,decide_eq_true_eq];omega
 ·have f : ¬ y.Rule=x.Rule:=fun e=>b e.symm
  simp only[b,f,if_false,decide_false,qa,hW]
  rw[← Bool.decide_or,decide_eq_true_eq];omega
variable {α:Type}
structure vn (lt:α→α→Bool):Prop where
 asymm:∀ a b,lt a b=true→lt b a=false
 trans:∀ a b c,lt b a=false→lt c b=false→lt c a=false
abbrev Srt (lt:α→α→Bool) (l:List α):Prop:=l.Pairwise fun a b=>lt b a=false
variable {lt:α→α→Bool}
theorem vn.irr (h:vn lt) (a:α):lt a a=false:=by
 cases e:lt a a with
 | false=>rfl
 | true=>rw[h.asymm a a e] at e;cases e
theorem Srt.last (h:vn lt) {l:List α} (f:Srt lt l) {y z:α} (a:l[l.length - 1]?=some z) (b:lt y z=false):∀ x∈l,lt y x=false:=by
 intro x g
 obtain⟨i,d,rfl⟩:=zx g
 by_cases c:i=l.length - 1
 ·subst c
  rw[gx d] at a
  cases a
  exact b
 ·have e:l.length - 1 < l.length:=by omega
  rw[gx e] at a
  cases a
  exact h.trans _ _ _ (Pm.1 f i (l.length - 1) d e OV) b
theorem Srt.first (h:vn lt) {l:List α} (f:Srt lt l) {y z:α} (a:l[0]?=some z) (b:lt z y=false):∀ x∈l,lt x y=false:=by
 intro x g
 obtain⟨i,d,rfl⟩:=zx g
 by_cases c:i=0
 ·subst c
  rw[gx d] at a
  cases a
  exact b
 ·have e:0 < l.length:=by omega
  rw[gx e] at a
  cases a
  exact h.trans _ _ _ b (Pm.1 f 0 i e d OV)
theorem Ht (h:vn lt) {X Y:List α} (q:Srt lt X) (r:Srt lt Y) {s t:Nat} (I:s≤X.length) (K:t≤Y.length)
  (h1:∀ x y,1≤s→X[s - 1]?=some x→Y[t]?=some y→lt y x=false) (u:∀ x y,1≤t→Y[t - 1]?=some y→X[s]?=some x→lt x y=false)
  {Z1 Z2:List α} (s1:Srt lt Z1) (o:Z1.Perm (X.take s++Y.take t)) (s2:Srt lt Z2) (p:Z2.Perm (X.drop s++Y.drop t)) :
  Srt lt (Z1++Z2)∧(Z1++Z2).Perm (X++Y):=by
 have v:Srt lt (X.take s++X.drop s):=by rw[k0];exact q
 have w:Srt lt (Y.take t++Y.drop t):=by rw[k0];exact r
 obtain⟨z,A,B⟩:=p5.1 v
 obtain⟨C,D,E⟩:=p5.1 w
 have F:∀ x∈X.take s,∀ y∈Y.drop t,lt y x=false:=by
  intro x f y g
  have ls:(X.take s).length=s:=by simp;omega
  have i:1≤s:=by
   have:=w3 f
   omega
  have j:t < Y.length:=by
   have:=w3 g
   simp at this;omega
  have k:(X.take s)[(X.take s).length - 1]?=some (X[s - 1]'OV):=by
   rw[ls,hN,if_pos OV,gx]
  have l:(Y.drop t)[0]?=some (Y[t]'j):=by
   rw[j1,jt,gx]
  have m:=h1 _ _ i (gx OV) (gx j)
  have n:=Srt.first h D l m y g
  exact Srt.last h z k n x f
 have a2:∀ y∈Y.take t,∀ x∈X.drop s,lt x y=false:=by
  intro y g x f
  have G:(Y.take t).length=t:=by simp;omega
  have j:1≤t:=by
   have:=w3 g
   omega
  have i:s < X.length:=by
   have:=w3 f
   simp at this;omega
  have k:(Y.take t)[(Y.take t).length - 1]?=some (Y[t - 1]'OV):=by
   rw[G,hN,if_pos OV,gx]
  have l:(X.drop s)[0]?=some (X[s]'i):=by
   rw[j1,jt,gx]
  have m:=u _ _ j (gx OV) (gx i)
  have n:=Srt.first h A l m x f
  exact Srt.last h C k n y g
 refine⟨p5.2 ⟨s1,s2,fun a c b d=>?_⟩,?_⟩
 ·rcases gf.1 (o.mem_iff.1 c) with c | c<;>rcases gf.1 (p.mem_iff.1 d) with d | d
  ·exact B a c b d
  ·exact F a c b d
  ·exact a2 a c b d
  ·exact E a c b d
 ·have e:(X++Y).Perm ((X.take s++Y.take t)++(X.drop s++Y.drop t)):=by
   have H:X++Y=(X.take s++X.drop s)++(Y.take t++Y.drop t):=by rw[k0,k0]
   rw[H]
   simp only[gi]
   refine List.Perm.append_left _ ?_
   rw[← gi,← gi]
   exact List.Perm.append_right _ q0
  exact (o.append p).trans e.symm
theorem Hd (h:vn lt) {x:α} {Y:List α} (j:Srt lt Y) {k:Nat} (hk:k≤Y.length) (h1:∀ y,1≤k→Y[k - 1]?=some y→lt x y=false) (l:∀ y,Y[k]?=some y→lt y x=false) :
  Srt lt (Y.take k++x :: Y.drop k)∧(Y.take k++x :: Y.drop k).Perm (x :: Y):=by
 have m:Srt lt (Y.take k++Y.drop k):=by rw[k0];exact j
 obtain⟨f,g,n⟩:=p5.1 m
 have lk:(Y.take k).length=k:=by simp;omega
 refine⟨p5.2 ⟨f,q6.2 ⟨fun y i=>?_,g⟩,fun a c b d=>?_⟩,?_⟩
 ·have e:k < Y.length:=by
   have:=w3 i
   simp at this;omega
  exact Srt.first h g (z:=Y[k]) (by rw[j1,jt,gx]) (l _ (gx e)) y i
 ·rcases hV.1 d with rfl | d
  ·have e:1≤k:=by
    have:=w3 c
    omega
   exact Srt.last h f (z:=Y[k - 1]'OV) (by rw[lk,hN,if_pos OV,gx]) (h1 _ e (gx OV)) a c
  ·exact n a c b d
 ·have:(Y.take k++x :: Y.drop k).Perm (x :: (Y.take k++Y.drop k)):=u0
  rwa [k0] at this
def swp (l:List α) (i j:Nat):List α:=match l[i]?,l[j]? with
 | some x,some y=>(l.set i y).set j x
 | _,_=>l
theorem I6 {P Q R:List α} {x y:α}:swp (P++x :: (Q++y :: R)) P.length (P.length+1+Q.length)=P++y :: (Q++x :: R):=by
 unfold swp
 have a:(P++x :: (Q++y :: R))[P.length]?=some x:=by simp
 have b:(P++x :: (Q++y :: R))[P.length+1+Q.length]?=some y:=by
  rw[oi OV,show P.length+1+Q.length - P.length=Q.length+1 by omega,P4]
  simp
 rw[a,b]
 simp only
 rw[sX _ _ OV,ti,List.set_cons_zero,sX _ _ OV,show P.length+1+Q.length - P.length=Q.length+1 by omega,List.set_cons_succ,sX _ _ OV,ti,List.set_cons_zero]
def ss (l:List α) (a b:Nat):Nat→Nat→List α
 | _,0=>l
 | k,n+1=>ss (swp l (a+k) (b+k)) a b (k+1) n
theorem FG:∀ (U V a b:List α) {P M Q:List α},U.length=V.length→a.length=b.length →
  ss (P++b++U++M++a++V++Q) P.length (P.length+b.length+U.length+M.length) a.length U.length=P++b++V++M++a++U++Q
 | [],[],a,b,P,M,Q,_,_=>by simp[ss]
 | u :: U,v :: V,a,b,P,M,Q,h,d=>by
  simp only[gj] at h
  have e:swp (P++b++(u :: U)++M++a++(v :: V)++Q) (P.length+a.length) (P.length+b.length+(U.length+1)+M.length+a.length)=P++b++(v :: U)++M++a++(u :: V)++Q:=by
   have:=I6 (P:=P++b) (Q:=U++M++a) (R:=V++Q) (x:=u) (y:=v)
   simp only[gi,hS,gk] at this ⊢
   rw[d]
   rw[← this]
   congr 1
   omega
  show ss (swp _ (P.length+a.length) _) _ _ (a.length+1) U.length=_
  simp only[gj]
  rw[e]
  have c:=FG U V (a++[u]) (b++[v]) (P:=P) (M:=M) (Q:=Q) OV (by simp;omega)
  simp only[gi,hS,hz,gk,gj,gm] at c ⊢
  rw[show P.length+b.length+(U.length+1)+M.length=P.length+(b.length+(0+1))+U.length+M.length by omega,show a.length+1=a.length+(0+1) by omega]
  exact c
 | [],v :: V,_,_,_,_,_,h,_=>by simp at h
 | u :: U,[],_,_,_,_,_,h,_=>by simp at h
theorem Bw {U V P M Q:List α} (h:U.length=V.length):ss (P++U++M++V++Q) P.length (P.length+U.length+M.length) 0 U.length=P++V++M++U++Q:=by
 have:=FG U V [] [] (P:=P) (M:=M) (Q:=Q) h rfl
 simpa using this
def rot (l:List α) (m:Nat):Nat→Nat→Nat→List α
 | 0,_,_=>l
 | f+1,i,j=>if i=j then ss l (m - i) m 0 i else if j < i then rot (ss l (m - i) m 0 j) m f (i - j) j else rot (ss l (m - i) (m+j - i) 0 i) m f i (j - i)
theorem DV:∀ (f:Nat) (U V P Q:List α),0 < U.length→0 < V.length→U.length+V.length≤f→rot (P++U++V++Q) (P.length+U.length) f U.length V.length=P++V++U++Q
 | 0,U,V,P,Q,h1,l,j=>by omega
 | f+1,U,V,P,Q,h1,l,j=>by
  unfold rot
  by_cases c:U.length=V.length
  ·rw[if_pos c]
   have:=Bw (P:=P) (M:=[]) (Q:=Q) c
   simp only[ix,gm,jt] at this
   rw[y3]
   exact this
  ·rw[if_neg c]
   by_cases c2:V.length < U.length
   ·rw[if_pos c2,y3]
    obtain⟨g,a,rfl,h⟩:∃ g a,U=g++a∧g.length=V.length:=⟨U.take V.length,U.drop V.length,OW,by simp;omega⟩
    simp only[gk] at j c2 ⊢
    have e:=Bw (P:=P) (M:=a) (Q:=Q) h
    rw[h] at e
    have k:ss (P++(g++a)++V++Q) P.length (P.length+(g.length+a.length)) 0 V.length=P++V++a++g++Q:=by
     rw[← e,h]
     simp only[gi,K5]
    rw[k]
    have i:=DV f a g (P++V) Q OV OV OV
    rw[show g.length+a.length - V.length=a.length by omega]
    rw[gk] at i
    rw[show P.length+(g.length+a.length)=P.length+V.length+a.length by omega,← h]
    rw[← h] at i
    rw[i]
    simp only[gi]
   ·rw[if_neg c2,y3]
    obtain⟨b,d,rfl,h⟩:∃ b d,V=b++d∧d.length=U.length:=⟨V.take (V.length - U.length),V.drop (V.length - U.length),OW,by simp;omega⟩
    simp only[gk] at j c c2 ⊢
    have e:=Bw (U:=U) (V:=d) (P:=P) (M:=b) (Q:=Q) h.symm
    have k:ss (P++U++(b++d)++Q) P.length (P.length+U.length+(b.length+d.length) - U.length) 0 U.length=P++d++b++U++Q:=by
     rw[← e,show P.length+U.length+(b.length+d.length) - U.length=P.length+U.length+b.length by omega]
     simp only[gi]
    rw[k]
    have i:=DV f d b P (U++Q) OV OV OV
    rw[show b.length+d.length - U.length=b.length by omega,← h]
    simp only[gi] at i ⊢
    exact i
theorem Ja {N:Nat} (g:1048578≤N) (x y:a7) (h:x.Ids.length≤1048576):∃ v,eD N x y=some v∧mN x y=decide (v < 0):=by
 unfold eD mN dt
 simp only[BQ,fI,Li g]
 by_cases d:x.Rule=y.Rule
 ·have a:cmp x.Rule y.Rule=0:=by unfold cmp;rw[d];simp
  rw[if_pos d,if_pos a]
  by_cases b:x.Ids.length=y.Ids.length
  ·have e:cmp (x.Ids.length:Int) (y.Ids.length:Int)=0:=by unfold cmp;rw[b];simp
   obtain⟨c,h1,f⟩:=Oj (N:=N) x.Ids y.Ids b h N 0 OV OV
   simp only[hY] at f
   rw[show ((0:Nat):Int)=0 from rfl] at h1
   rw[if_pos b,e]
   simp only[decide_true,if_true,h1,fI]
   exact⟨c,rfl,f.symm⟩
  ·have e:cmp (x.Ids.length:Int) (y.Ids.length:Int)≠0:=by unfold cmp;split<;>(try split)<;>omega
   rw[if_neg b]
   simp only[e,decide_false,gb,if_false]
   refine⟨_,rfl,?_⟩
   rw[decide_eq_decide]
   unfold cmp;split<;>(try split)<;>omega
 ·have a:cmp x.Rule y.Rule≠0:=by unfold cmp;split<;>(try split)<;>omega
  rw[if_neg d,if_neg a]
  simp only[a,decide_false,gb,if_false]
  refine⟨_,rfl,?_⟩
  rw[decide_eq_decide]
  unfold cmp;split<;>(try split)<;>omega
theorem BV {x y z:a7} (h:un x y=true):mN x z=mN y z∧mN z x=mN z y:=by
 unfold un at h
 simp only[ha,decide_eq_true_eq] at h
 unfold mN
 rw[h.1,h.2]
 exact⟨rfl,rfl⟩
theorem xr:vn mN:=by
 refine⟨fun a b h=>?_,fun a b c h1 g=>?_⟩
 ·have:=GQ a b
  rw[h,hZ] at this;exact this
 ·cases e:mN c a with
  | false=>rfl
  | true=>
   have d:=CQ c b
   rw[g,Bool.false_or] at d
   cases f:un c b with
   | true=>
    have:=(BV f (z:=a)).1
    rw[e] at this;rw[← this] at h1;cases h1
   | false=>
    rw[f] at d
    have:=DF d e
    rw[h1] at this;cases this
variable {α:Type} {lt:α→α→Bool}
def bsr (ask:Nat→Bool):Nat→Nat→Nat→Nat
 | 0,i,_=>i
 | f+1,i,j=>if i < j then (if ask ((i+j) / 2)=true then bsr ask f ((i+j) / 2+1) j else bsr ask f i ((i+j) / 2)) else i
theorem zm (ask:Nat→Bool) (lo a:Nat):∀ (f i j:Nat),lo≤i→i≤j→j≤a→j - i < f→(i=lo∨ask (i - 1)=true)→(j=a∨ask j=false) →
  lo≤bsr ask f i j∧bsr ask f i j≤a∧(bsr ask f i j=lo∨ask (bsr ask f i j - 1)=true)∧(bsr ask f i j=a∨ask (bsr ask f i j)=false)
 | 0,i,j,_,_,_,h,_,_=>by omega
 | f+1,i,j,h1,k,b,l,d,g=>by
  unfold bsr
  by_cases c:i < j
  ·rw[if_pos c]
   cases e:ask ((i+j) / 2) with
   | true=>
    rw[if_pos rfl]
    exact zm ask lo a f _ j OV OV b OV (.inr (by rw[y3];exact e)) g
   | false=>
    rw[if_neg OW]
    exact zm ask lo a f i _ h1 OV OV OV d (.inr e)
  ·rw[if_neg c]
   have:i=j:=by omega
   subst this
   exact⟨h1,b,d,g⟩
def um (lt:α→α→Bool) (l:List α) (i j:Nat):Bool:=match l[i]?,l[j]? with
 | some x,some y=>lt x y
 | _,_=>false
theorem mJ {l:List α} {i j:Nat} {x y:α} (h1:l[i]?=some x) (a:l[j]?=some y):um lt l i j=lt x y:=by
 unfold um;rw[h1,a]
def shR (l:List α):Nat→Nat→List α
 | _,0=>l
 | k,n+1=>shR (swp l k (k+1)) (k+1) n
def shL (l:List α):Nat→Nat→List α
 | _,0=>l
 | k,n+1=>shL (swp l (k - 1) k) (k - 1) n
theorem Bg {P Q:List α} {x y:α}:swp (P++x :: y :: Q) P.length (P.length+1)=P++y :: x :: Q:=by
 have:=I6 (P:=P) (Q:=[]) (R:=Q) (x:=x) (y:=y)
 simpa using this
theorem HR:∀ (U P Q:List α) (x:α),shR (P++x :: (U++Q)) P.length U.length=P++U++x :: Q
 | [],P,Q,x=>by simp[shR]
 | u :: U,P,Q,x=>by
  show shR (swp (P++x :: u :: (U++Q)) P.length (P.length+1)) (P.length+1) U.length=_
  rw[Bg]
  have:=HR U (P++[u]) Q x
  simp only[gi,hS,hz,gk,gj,gm] at this ⊢
  exact this
theorem IT:∀ (n:Nat) (U P Q:List α) (x:α),U.length=n→shL (P++U++x :: Q) (P.length+n) n=P++x :: (U++Q)
 | 0,U,P,Q,x,h=>by
  have:U=[]:=oj.1 h
  subst this;simp[shL]
 | n+1,U,P,Q,x,h=>by
  have a:U≠[]:=by rintro rfl;simp at h
  obtain⟨V,u,rfl⟩:∃ V u,U=V++[u]:=⟨U.dropLast,U.getLast a,(Pn a).symm⟩
  simp at h
  show shL (swp (P++(V++[u])++x :: Q) (P.length+(n+1) - 1) (P.length+(n+1))) (P.length+(n+1) - 1) n=_
  have e:=Bg (P:=P++V) (Q:=Q) (x:=u) (y:=x)
  simp only[gi,hS,hz,gk,h] at e ⊢
  rw[show P.length+(n+1) - 1=P.length+n by omega,show P.length+(n+1)=P.length+n+1 by omega,e]
  have b:=IT n V P (u :: Q) x h
  simp only[gi,hS] at b
  exact b
def nF (lt:α→α→Bool):Nat→List α→Nat→Nat→Nat→List α
 | 0,l,_,_,_=>l
 | f+1,l,a,m,b=>
  if m - a=1 then
   let i:=bsr (fun h=>um lt l h a) (b - m+1) m b
   shR l a (i - 1 - a)
  else if b - m=1 then
   let i:=bsr (fun h=>!um lt l m h) (m - a+1) a m
   shL l m (m - i)
  else
   let mid:=(a+b) / 2
   let n:=mid+m
   let s0:=if mid < m then n - b else a
   let r0:=if mid < m then mid else m
   let s:=bsr (fun c=>!um lt l (n - 1 - c) c) (r0 - s0+1) s0 r0
   let e:=n - s
   let l1:=if s < m∧m < e then rot l m (e - s) (m - s) (e - m) else l
   let l2:=if a < s∧s < mid then nF lt f l1 a s mid else l1
   if mid < e∧e < b then nF lt f l2 mid e b else l2
theorem K6 {P X R:List α} {c:Nat} (h:c < X.length):(P++(X++R))[P.length+c]?=X[c]?:=by
 rw[oi OV,P7,nt h]
theorem Ka {P X Y Q:List α} {c:Nat} (h:c < Y.length):(P++(X++(Y++Q)))[P.length+X.length+c]?=Y[c]?:=by
 rw[oi OV,oi OV,show P.length+X.length+c - P.length - X.length=c by omega,nt h]
theorem yd (h:vn lt):∀ (f:Nat) (X Y P Q:List α),Srt lt X→Srt lt Y→0 < X.length→0 < Y.length→X.length+Y.length≤f →
  ∃ Z,nF lt f (P++(X++(Y++Q))) P.length (P.length+X.length) (P.length+X.length+Y.length)=P++(Z++Q)∧Srt lt Z∧Z.Perm (X++Y)
 | 0,X,Y,P,Q,_,_,h1,S,T=>by omega
 | f+1,X,Y,P,Q,u,v,h1,S,T=>by
  unfold nF
  by_cases c1:P.length+X.length - P.length=1
  ·rw[if_pos c1]
   have j:X.length=1:=by omega
   obtain⟨x,rfl⟩:∃ x,X=[x]:=Po.1 j
   simp only[gj,gm]
   obtain⟨n,o,a,b⟩:=zm (fun h=>um lt (P++([x]++(Y++Q))) h P.length) (P.length+(0+1)) (P.length+(0+1)+Y.length) (P.length+(0+1)+Y.length - (P.length+(0+1))+1) (P.length+(0+1)) (P.length+(0+1)+Y.length)
    (hA _) OV (hA _) OV (.inl rfl) (.inl rfl)
   generalize e:bsr (fun h=>um lt (P++([x]++(Y++Q))) h P.length) (P.length+(0+1)+Y.length - (P.length+(0+1))+1) (P.length+(0+1)) (P.length+(0+1)+Y.length)=i at n o a b
   obtain⟨k,rfl⟩:∃ k,i=P.length+1+k:=⟨i - (P.length+1),OV⟩
   have hk:k≤Y.length:=by omega
   have p:(P++([x]++(Y++Q)))[P.length]?=some x:=by simp
   have F:∀ c,c < Y.length→(P++([x]++(Y++Q)))[P.length+1+c]?=Y[c]?:=fun c U=>Ka (X:=[x]) U
   obtain⟨q,r⟩:=Hd h (x:=x) v hk (fun y V l=>by
    rcases a with a | a
    ·omega
    ·have g:(P++([x]++(Y++Q)))[P.length+1+k - 1]?=some y:=by
      rw[show P.length+1+k - 1=P.length+1+(k - 1) by omega,F _ OV];exact l
     rw[mJ g p] at a
     exact h.asymm _ _ a) (fun y l=>by
    have w:=(gI.1 l).1
    rcases b with b | b
    ·omega
    ·rw[mJ (by rw[F _ w];exact l) p] at b
     exact b)
   refine⟨_,?_,q,by simpa using r⟩
   have:=HR (Y.take k) P (Y.drop k++Q) x
   rw[← gi (Y.take k),k0] at this
   have z:(Y.take k).length=k:=by simp;omega
   rw[z] at this
   rw[show P.length+1+k - 1 - P.length=k by omega]
   simp only[hS,hz,gi] at this ⊢
   exact this
  rw[if_neg c1]
  by_cases c2:P.length+X.length+Y.length - (P.length+X.length)=1
  ·rw[if_pos c2]
   obtain⟨y,rfl⟩:∃ y,Y=[y]:=Po.1 OV
   obtain⟨n,o,a,b⟩:=zm (fun h=>!um lt (P++(X++([y]++Q))) (P.length+X.length) h) P.length (P.length+X.length) (P.length+X.length - P.length+1) P.length (P.length+X.length)
    (hA _) OV (hA _) OV (.inl rfl) (.inl rfl)
   simp only
   generalize e:bsr (fun h=>!um lt (P++(X++([y]++Q))) (P.length+X.length) h) (P.length+X.length - P.length+1) P.length (P.length+X.length)=i at n o a b
   obtain⟨k,rfl⟩:∃ k,i=P.length+k:=⟨i - P.length,OV⟩
   have hk:k≤X.length:=by omega
   have p:(P++(X++([y]++Q)))[P.length+X.length]?=some y:=by
    have:=Ka (P:=P) (X:=X) (Y:=[y]) (Q:=Q) (c:=0) OW
    rw[jt] at this;exact this
   obtain⟨q,r⟩:=Hd h (x:=y) u hk (fun x V j=>by
    rcases a with a | a
    ·omega
    ·have g:(P++(X++([y]++Q)))[P.length+k - 1]?=some x:=by
      rw[show P.length+k - 1=P.length+(k - 1) by omega,K6 OV];exact j
     rw[mJ p g] at a
     simpa using a) (fun x j=>by
    have w:=(gI.1 j).1
    rcases b with b | b
    ·omega
    ·rw[mJ p (by rw[K6 w];exact j)] at b
     exact h.asymm _ _ (by simpa using b))
   refine⟨_,?_,q,r.trans (q0 (l₁:=[y]) (l₂:=X))⟩
   have:=IT (X.length - k) (X.drop k) (P++X.take k) Q y OW
   have z:(X.take k).length=k:=by simp;omega
   simp only[gk,z] at this
   rw[show P.length+k+(X.length - k)=P.length+X.length by omega] at this
   rw[show P.length+X.length - (P.length+k)=X.length - k by omega]
   simp only[gi,hS,hz] at this ⊢
   rw[← gi (X.take k),k0] at this
   exact this
  rw[if_neg c2]
  have x2:2≤X.length:=by omega
  have y2:2≤Y.length:=by omega
  obtain⟨d,hd⟩:∃ d,d=(X.length+Y.length) / 2:=⟨_,rfl⟩
  have W:(P.length+(P.length+X.length+Y.length)) / 2=P.length+d:=by omega
  simp only[W]
  have a1:(if P.length+d < P.length+X.length then P.length+d+(P.length+X.length) - (P.length+X.length+Y.length) else P.length)=P.length+(if d < X.length then d - Y.length else 0):=by
   by_cases c:d < X.length
   ·rw[if_pos OV,if_pos c];omega
   ·rw[if_neg OV,if_neg c];omega
  have a6:(if P.length+d < P.length+X.length then P.length+d else P.length+X.length)=P.length+(if d < X.length then d else X.length):=by
   by_cases c:d < X.length
   ·rw[if_pos OV,if_pos c]
   ·rw[if_neg OV,if_neg c]
  rw[a1,a6]
  obtain⟨lo,A⟩:∃ lo,lo=(if d < X.length then d - Y.length else 0):=⟨_,rfl⟩
  obtain⟨e,B⟩:∃ e,e=(if d < X.length then d else X.length):=⟨_,rfl⟩
  rw[← A,← B]
  have hb:lo≤e∧e≤X.length∧e≤d∧d≤lo+Y.length∧(lo=0∨lo+Y.length=d)∧(e=d∨e=X.length):=by
   by_cases c:d < X.length
   ·rw[if_pos c] at A B;omega
   ·rw[if_neg c] at A B;omega
  obtain⟨b1,b2,b3,b4,C,D⟩:=hb
  obtain⟨n,o,a,b⟩:=zm (fun c=>!um lt (P++(X++(Y++Q))) (P.length+d+(P.length+X.length) - 1 - c) c) (P.length+lo) (P.length+e) (P.length+e - (P.length+lo)+1) (P.length+lo) (P.length+e)
   (hA _) OV (hA _) OV (.inl rfl) (.inl rfl)
  generalize ai:bsr (fun c=>!um lt (P++(X++(Y++Q))) (P.length+d+(P.length+X.length) - 1 - c) c) (P.length+e - (P.length+lo)+1) (P.length+lo) (P.length+e)=i at n o a b
  obtain⟨s,rfl⟩:∃ s,i=P.length+s:=⟨i - P.length,OV⟩
  obtain⟨t,ht⟩:∃ t,t=d - s:=⟨_,rfl⟩
  have a7:s≤X.length∧t≤Y.length∧s+t=d:=by omega
  obtain⟨g1,g2,g3⟩:=a7
  have he:P.length+d+(P.length+X.length) - (P.length+s)=P.length+X.length+t:=by omega
  rw[he]
  have H:=fun {Z1 Z2:List α}=>Ht h u v g1 g2 (Z1:=Z1) (Z2:=Z2) (fun x y aj j l=>by
   have a8:=(gI.1 l).1
   rcases a with a | a
   ·rcases C with C | C<;>omega
   ·have g:(P++(X++(Y++Q)))[P.length+d+(P.length+X.length) - 1 - (P.length+s - 1)]?=some y:=by
     rw[show P.length+d+(P.length+X.length) - 1 - (P.length+s - 1)=P.length+X.length+t by omega,Ka a8];exact l
    have m:(P++(X++(Y++Q)))[P.length+s - 1]?=some x:=by
     rw[show P.length+s - 1=P.length+(s - 1) by omega,K6 OV];exact j
    rw[mJ g m] at a
    simpa using a) (fun x y ak l j=>by
   have aa:=(gI.1 j).1
   rcases b with b | b
   ·rcases D with D | D<;>omega
   ·have g:(P++(X++(Y++Q)))[P.length+d+(P.length+X.length) - 1 - (P.length+s)]?=some y:=by
     rw[show P.length+d+(P.length+X.length) - 1 - (P.length+s)=P.length+X.length+(t - 1) by omega,Ka OV];exact l
    have m:(P++(X++(Y++Q)))[P.length+s]?=some x:=by
     rw[K6 aa];exact j
    rw[mJ g m] at b
    exact h.asymm _ _ (by simpa using b))
  have ab:(if P.length+s < P.length+X.length∧P.length+X.length < P.length+X.length+t then rot (P++(X++(Y++Q))) (P.length+X.length) (P.length+X.length+t - (P.length+s)) (P.length+X.length - (P.length+s)) (P.length+X.length+t - (P.length+X.length)) else P++(X++(Y++Q)))
    = P++(X.take s++(Y.take t++(X.drop s++(Y.drop t++Q)))):=by
   by_cases c:s < X.length∧0 < t
   ·rw[if_pos OV]
    have lX:(X.take s).length=s:=by simp;omega
    have lD:(X.drop s).length=X.length - s:=by simp
    have lY:(Y.take t).length=t:=by simp;omega
    have:=DV (X.length - s+t) (X.drop s) (Y.take t) (P++X.take s) (Y.drop t++Q) OV OV OV
    simp only[gk,lX,lD,lY] at this
    rw[show P.length+X.length+t - (P.length+s)=X.length - s+t by omega,show P.length+X.length - (P.length+s)=X.length - s by omega,show P.length+X.length+t - (P.length+X.length)=t by omega]
    rw[show P.length+s+(X.length - s)=P.length+X.length by omega] at this
    simp only[gi] at this ⊢
    rw[← gi (Y.take t) (Y.drop t) Q,k0,← gi (X.take s) (X.drop s),k0] at this
    exact this
   ·rw[if_neg OV]
    by_cases G:s < X.length
    ·have:t=0:=by omega
     subst this
     simp only[List.take_zero,hY,hz]
     rw[← gi (X.take s) (X.drop s),k0]
    ·have:s=X.length:=by omega
     subst this
     simp only[List.take_length,List.drop_length,hz]
     rw[← gi (Y.take t) (Y.drop t) Q,k0]
  rw[ab]
  have I:(X.take s).length=s:=by simp;omega
  have K:(Y.take t).length=t:=by simp;omega
  have ad:(X.drop s).length=X.length - s:=by simp
  have ae:(Y.drop t).length=Y.length - t:=by simp
  have af:Srt lt (X.take s++X.drop s):=by rw[k0];exact u
  have ag:Srt lt (Y.take t++Y.drop t):=by rw[k0];exact v
  obtain⟨L,M,-⟩:=p5.1 af
  obtain⟨N,O,-⟩:=p5.1 ag
  obtain⟨Z1,f1,z1,R⟩:∃ Z1,(if P.length < P.length+s∧P.length+s < P.length+d then nF lt f (P++(X.take s++(Y.take t++(X.drop s++(Y.drop t++Q))))) P.length (P.length+s) (P.length+d) else P++(X.take s++(Y.take t++(X.drop s++(Y.drop t++Q)))))
    = P++(Z1++(X.drop s++(Y.drop t++Q)))∧Srt lt Z1∧Z1.Perm (X.take s++Y.take t):=by
   by_cases c:0 < s∧0 < t
   ·rw[if_pos OV]
    obtain⟨Z,g,m,E⟩:=yd h f (X.take s) (Y.take t) P (X.drop s++(Y.drop t++Q)) L N OV OV OV
    rw[I,K,show P.length+s+t=P.length+d by omega] at g
    exact⟨Z,g,m,E⟩
   ·rw[if_neg OV]
    by_cases G:0 < s
    ·have:t=0:=by omega
     subst this
     exact⟨X.take s,OW,L,OW⟩
    ·have:s=0:=by omega
     subst this
     exact⟨Y.take t,OW,N,OW⟩
  rw[f1]
  have ah:Z1.length=d:=by rw[R.length_eq,gk,I,K];omega
  obtain⟨Z2,f2,z2,p2⟩:∃ Z2,(if P.length+d < P.length+X.length+t∧P.length+X.length+t < P.length+X.length+Y.length then nF lt f (P++(Z1++(X.drop s++(Y.drop t++Q)))) (P.length+d) (P.length+X.length+t) (P.length+X.length+Y.length) else P++(Z1++(X.drop s++(Y.drop t++Q))))
    = P++(Z1++(Z2++Q))∧Srt lt Z2∧Z2.Perm (X.drop s++Y.drop t):=by
   by_cases c:s < X.length∧t < Y.length
   ·rw[if_pos OV]
    obtain⟨Z,g,m,E⟩:=yd h f (X.drop s) (Y.drop t) (P++Z1) Q M O OV OV OV
    rw[gk,ad,ae,ah,show P.length+d+(X.length - s)=P.length+X.length+t by omega,show P.length+X.length+t+(Y.length - t)=P.length+X.length+Y.length by omega] at g
    simp only[gi] at g
    exact⟨Z,g,m,E⟩
   ·rw[if_neg OV]
    by_cases G:s < X.length
    ·have:t=Y.length:=by omega
     exact⟨X.drop s,by simp[this],M,by simp[this]⟩
    ·have:s=X.length:=by omega
     exact⟨Y.drop t,by simp[this],O,by simp[this]⟩
  rw[f2]
  obtain⟨q,r⟩:=H z1 R z2 p2
  exact⟨Z1++Z2,by simp only[gi],q,r⟩
variable {α:Type} {lt:α→α→Bool}
def zQ (lt:α→α→Bool):Nat→List α→Nat→Nat→List α
 | 0,l,_,_=>l
 | f+1,l,a,j=>if a < j∧um lt l j (j - 1)=true then zQ lt f (swp l (j - 1) j) a (j - 1) else l
theorem EO (h:vn lt):∀ (f:Nat) (P S T Q:List α) (x:α),S.length < f→Srt lt (S++T)→(∀ t∈T,lt x t=true) →
  ∃ Z,zQ lt f (P++(S++x :: (T++Q))) P.length (P.length+S.length)=P++(Z++Q)∧Srt lt Z∧Z.Perm (x :: (S++T))
 | 0,P,S,T,Q,x,h1,_,_=>by omega
 | f+1,P,S,T,Q,x,h1,e,i=>by
  unfold zQ
  have d:∀ t∈T,lt t x=false:=fun t d=>h.asymm _ _ (i t d)
  by_cases c:S.length=0
  ·have:S=[]:=oj.1 c
   subst this
   rw[if_neg OW]
   exact⟨x :: T,OW,q6.2 ⟨d,by simpa using e⟩,OW⟩
  ·have j:S≠[]:=by rintro rfl;simp at c
   obtain⟨S',u,rfl⟩:∃ S' u,S=S'++[u]:=⟨S.dropLast,S.getLast j,(Pn j).symm⟩
   have m:(P++((S'++[u])++x :: (T++Q)))[P.length+(S'++[u]).length]?=some x:=by
    rw[oi OV,P7,oi (hA _),ti];rfl
   have n:(P++((S'++[u])++x :: (T++Q)))[P.length+(S'++[u]).length - 1]?=some u:=by
    have:P.length+(S'++[u]).length - 1=P.length+S'.length:=by simp
    rw[this,oi OV,P7,gi,oi (hA _),ti];rfl
   rw[mJ m n]
   cases q:lt x u with
   | true=>
    rw[if_pos ⟨OW,rfl⟩]
    have k:=Bg (P:=P++S') (Q:=T++Q) (x:=u) (y:=x)
    have hw:swp (P++((S'++[u])++x :: (T++Q))) (P.length+(S'++[u]).length - 1) (P.length+(S'++[u]).length)=P++(S'++x :: ((u :: T)++Q)):=by
     simp only[gi,hS,hz,gk,gj,gm] at k ⊢
     rw[show P.length+(S'.length+(0+1)) - 1=P.length+S'.length by omega,show P.length+(S'.length+(0+1))=P.length+S'.length+1 by omega]
     exact k
    rw[hw]
    have o:Srt lt (S'++(u :: T)):=by simpa using e
    obtain⟨Z,p,z2,z3⟩:=EO h f P S' (u :: T) Q x (by simp at h1;omega) o (fun t d=>by
     rcases hV.1 d with rfl | d
     ·exact q
     ·exact i t d)
    rw[show P.length+(S'++[u]).length - 1=P.length+S'.length by simp]
    exact⟨Z,p,z2,by simpa using z3⟩
   | false=>
    rw[if_neg OW]
    obtain⟨s1,s2,r⟩:=p5.1 e
    refine⟨(S'++[u])++x :: T,OW,p5.2 ⟨s1,q6.2 ⟨d,s2⟩,fun a l b g=>?_⟩,u0⟩
    rcases hV.1 g with rfl | g
    ·exact Srt.last h s1 (z:=u) OW q a l
    ·exact r a l b g
def vg (lt:α→α→Bool):Nat→List α→Nat→Nat→Nat→List α
 | 0,l,_,_,_=>l
 | f+1,l,a,i,b=>if i < b then vg lt f (zQ lt (i - a+1) l a i) a (i+1) b else l
theorem FD (h:vn lt):∀ (f:Nat) (P S U Q:List α),U.length < f→Srt lt S →
  ∃ Z,vg lt f (P++(S++(U++Q))) P.length (P.length+S.length) (P.length+S.length+U.length)=P++(Z++Q)∧Srt lt Z∧Z.Perm (S++U)
 | 0,P,S,U,Q,h1,_=>by omega
 | f+1,P,S,[],Q,h1,b=>⟨S,by unfold vg;rw[if_neg OW];simp,b,OW⟩
 | f+1,P,S,u :: U,Q,h1,b=>by
  unfold vg
  rw[if_pos OW]
  obtain⟨Z,c,z2,z3⟩:=EO h (P.length+S.length - P.length+1) P S [] (U++Q) u OV (by simpa using b) OW
  simp only[hz,ix] at c z3
  simp only[hS]
  rw[c]
  have e:Z.length=S.length+1:=by rw[z3.length_eq];simp
  obtain⟨W,d,g,i⟩:=FD h f P Z U Q (by simp at h1;omega) z2
  rw[e] at d
  rw[show P.length+S.length+1=P.length+(S.length+1) by omega,show P.length+S.length+(u :: U).length=P.length+(S.length+1)+U.length by simp;omega]
  refine⟨W,d,g,i.trans ?_⟩
  refine (z3.append_right U).trans ?_
  exact (u0 (l₁:=S) (l₂:=U) (a:=u)).symm
theorem CO (h:vn lt) (P X Q:List α) {f:Nat} (b:X.length < f):∃ Z,vg lt f (P++(X++Q)) P.length (P.length+1) (P.length+X.length)=P++(Z++Q)∧Srt lt Z∧Z.Perm X:=by
 cases X with
 | nil=>
  refine⟨[],?_,List.Pairwise.nil,List.Perm.refl _⟩
  cases f with
  | zero=>omega
  | succ f=>unfold vg;rw[if_neg OW]
 | cons x X=>
  obtain⟨Z,a,z2,z3⟩:=FD h f P [x] X Q (by simp at b;omega) OW
  refine⟨Z,?_,z2,by simpa using z3⟩
  simp only[gj,gm,hS,hz] at a ⊢
  rw[show P.length+(X.length+1)=P.length+(0+1)+X.length by omega]
  exact a
def sJ (lt:α→α→Bool) (s:Nat) (l:List α):Prop:=∀ k,Srt lt ((l.drop (k*s)).take s)
theorem sJ.cons {s:Nat} {Z R:List α} (b:Srt lt Z) (a:Z.length=s) (c:sJ lt s R):sJ lt s (Z++R):=by
 intro k
 cases k with
 | zero=>rw[L2,hY,← a,List.take_left];exact b
 | succ k=>
  have:=c k
  rw[hE,K2,← List.drop_drop,← a,List.drop_left]
  rw[a];exact this
theorem sJ.short {s:Nat} {Z:List α} (a:Srt lt Z) (b:Z.length≤s):sJ lt s Z:=by
 intro k
 cases k with
 | zero=>rw[L2,hY,P3 b];exact a
 | succ k=>rw[hB (by rw[hE];omega)];simp
theorem sJ.head {s:Nat} {X R:List α} (h:sJ lt s (X++R)) (a:X.length=s):Srt lt X∧sJ lt s R:=by
 refine⟨?_,fun k=>?_⟩
 ·have:=h 0
  rwa [L2,hY,← a,List.take_left] at this
 ·have:=h (k+1)
  rw[hE,K2,← List.drop_drop] at this
  have e:(X++R).drop s=R:=by rw[← a,List.drop_left]
  rwa [e] at this
theorem sJ.all {s:Nat} {X:List α} (h:sJ lt s X) (a:X.length≤s):Srt lt X:=by
 have:=h 0
 rwa [L2,hY,P3 a] at this
def zb (lt:α→α→Bool) (s:Nat):Nat→List α→Nat→Nat→List α
 | 0,l,_,_=>l
 | f+1,l,a,n=>if a+s≤n then zb lt s f (vg lt (s+1) l a (a+1) (a+s)) (a+s) n else vg lt (n - a+1) l a (a+1) n
theorem cut {s:Nat} {R:List α} (h:s≤R.length):∃ X a,R=X++a∧X.length=s:=⟨R.take s,R.drop s,OW,by simp;omega⟩
theorem FR (h:vn lt) {s:Nat} (i:0 < s):∀ (f:Nat) (D R:List α),R.length < f→∃ R',zb lt s f (D++R) D.length (D.length+R.length)=D++R'∧R'.Perm R∧sJ lt s R'
 | 0,D,R,h1=>by omega
 | f+1,D,R,h1=>by
  unfold zb
  by_cases c:s≤R.length
  ·rw[if_pos OV]
   obtain⟨X,d,rfl,b⟩:=cut c
   obtain⟨Z,a,z2,z3⟩:=CO h D X d (f:=s+1) OV
   rw[b] at a
   rw[a]
   have e:Z.length=s:=by rw[z3.length_eq,b]
   simp only[gk] at h1
   obtain⟨R',g,j,k⟩:=FR h i f (D++Z) d OV
   rw[gk,e,gi] at g
   rw[gk,b,← K5,g]
   exact⟨Z++R',OW,z3.append j,sJ.cons z2 e k⟩
  ·rw[if_neg OV]
   obtain⟨Z,a,z2,z3⟩:=CO h D R [] (f:=D.length+R.length - D.length+1) OV
   simp only[ix] at a
   rw[a]
   exact⟨Z,rfl,z3,sJ.short z2 (by rw[z3.length_eq];omega)⟩
def pas (lt:α→α→Bool) (F s:Nat):Nat→List α→Nat→Nat→List α
 | 0,l,_,_=>l
 | f+1,l,a,n=>if a+2*s≤n then pas lt F s f (nF lt F l a (a+s) (a+2*s)) (a+2*s) n else if a+s < n then nF lt F l a (a+s) n else l
theorem IC (h:vn lt) {F s:Nat} (n:0 < s):∀ (f:Nat) (D R:List α),R.length < f→R.length≤F→sJ lt s R→∃ R',pas lt F s f (D++R) D.length (D.length+R.length)=D++R'∧R'.Perm R∧sJ lt (2*s) R'
 | 0,D,R,h1,_,_=>by omega
 | f+1,D,R,h1,e,g=>by
  unfold pas
  by_cases c:2*s≤R.length
  ·rw[if_pos OV]
   obtain⟨X,o,rfl,a⟩:=cut (s:=s) (R:=R) OV
   obtain⟨i,p⟩:=g.head a
   rw[gk] at c h1 e
   obtain⟨Y,d,rfl,j⟩:=cut (s:=s) (R:=o) OV
   obtain⟨k,q⟩:=p.head j
   rw[gk] at c h1 e
   obtain⟨Z,b,z2,z3⟩:=yd h F X Y D d i k OV OV OV
   rw[a,j,show D.length+s+s=D.length+2*s by omega] at b
   rw[b]
   have l:Z.length=2*s:=by rw[z3.length_eq,gk];omega
   obtain⟨R',m,r,t⟩:=IC h (F:=F) n f (D++Z) d OV OV q
   rw[gk,l,gi] at m
   rw[gk,gk,a,j,show D.length+(s+(s+d.length))=D.length+2*s+d.length by omega,m]
   refine⟨Z++R',OW,?_,sJ.cons z2 l t⟩
   have:=z3.append r
   rwa [gi] at this
  ·rw[if_neg OV]
   by_cases c2:s < R.length
   ·rw[if_pos OV]
    obtain⟨X,Y,rfl,a⟩:=cut (s:=s) (R:=R) OV
    obtain⟨i,k⟩:=g.head a
    rw[gk] at c c2 h1 e
    obtain⟨Z,b,z2,z3⟩:=yd h F X Y D [] i (k.all OV) OV OV OV
    simp only[ix] at b
    rw[a] at b
    rw[gk,a,← K5,b]
    exact⟨Z,rfl,z3,sJ.short z2 (by rw[z3.length_eq,gk];omega)⟩
   ·rw[if_neg OV]
    exact⟨R,rfl,List.Perm.refl _,sJ.short (g.all OV) OV⟩
def stL (lt:α→α→Bool) (F:Nat):Nat→List α→Nat→Nat→List α
 | 0,l,_,_=>l
 | f+1,l,n,s=>if s < n then stL lt F f (pas lt F s (n+1) l 0 n) n (2*s) else l
theorem HI (h:vn lt) {F:Nat}:∀ (f:Nat) (l:List α) (s:Nat),0 < s→l.length - s < f→l.length≤F→sJ lt s l→Srt lt (stL lt F f l l.length s)∧(stL lt F f l l.length s).Perm l
 | 0,l,s,_,h1,_,_=>by omega
 | f+1,l,s,e,h1,g,a=>by
  unfold stL
  by_cases c:s < l.length
  ·rw[if_pos c]
   obtain⟨R',b,d,i⟩:=IC h (F:=F) e (l.length+1) [] l OV g a
   simp only[hz,gm,ho] at b
   rw[b]
   have j:R'.length=l.length:=d.length_eq
   obtain⟨g1,g2⟩:=HI (F:=F) h f R' (2*s) OV OV OV i
   rw[j] at g1 g2
   exact⟨g1,g2.trans d⟩
  ·rw[if_neg c]
   exact⟨a.all OV,List.Perm.refl _⟩
def wE (lt:α→α→Bool) (F:Nat) (l:List α):List α:=stL lt F (l.length+1) (zb lt 20 (l.length+1) l 0 l.length) l.length 20
theorem GY (h:vn lt) {F:Nat} (l:List α) (e:l.length≤F):Srt lt (wE lt F l)∧(wE lt F l).Perm l:=by
 obtain⟨R,a,b,c⟩:=FR h (s:=20) OV (l.length+1) [] l OV
 simp only[hz,gm,ho] at a
 unfold wE
 rw[a]
 have d:R.length=l.length:=b.length_eq
 obtain⟨g1,g2⟩:=HI h (F:=F) (l.length+1) R 20 OV OV OV c
 rw[d] at g1 g2
 exact⟨g1,g2.trans b⟩
variable {α:Type} {lt:α→α→Bool}
theorem Fc:∀ (A B:List α),(∀ a∈A,∀ b∈A,lt a b=false→lt b a=false→a=b)→Srt lt A→Srt lt B→A.Perm B→A=B
 | [],B,_,_,_,h=>(List.perm_nil.1 h.symm).symm
 | a :: A,[],_,_,_,h=>by have:=h.length_eq;simp at this
 | a :: A,b :: B,he,c,d,h=>by
  obtain⟨f,a2⟩:=q6.1 c
  obtain⟨g,i⟩:=q6.1 d
  have m2:b∈a :: A:=h.mem_iff.2 OW
  have e:a=b:=by
   have m1:a∈b :: B:=h.mem_iff.1 OW
   rcases hV.1 m1 with m1 | m1
   ·exact m1
   ·rcases hV.1 m2 with m2' | m2'
    ·exact m2'.symm
    ·exact he a OW b m2 (g a m1) (f b m2')
  subst e
  rw[Fc A B (fun x j y k=>he x (by simp[j]) y (by simp[k])) a2 i (List.Perm.cons_inv h)]
def xJ (t:an):Bool:=t.Hits.all fun n=>decide (n=0)
def tX (xs:List ak) (i:Int) (r:ah) (t:an):List a7:=if ((be xs (pos r.Pats) t.Ids []).2 && (xJ t && r.Conds.all fun c=>holds c (be xs (pos r.Pats) t.Ids []).1))=true then [⟨i,t.Ids,(be xs (pos r.Pats) t.Ids []).1⟩] else []
def pj (xs:List ak) (i:Int) (r:ah) (l:List an):List a7:=l.flatMap (tX xs i r)
def pt (w:aH):List an:=match w.Levels[w.Levels.length - 1]? with
 | some L=>L.Toks
 | none=>[]
def vh (l:List a7):List a7:=wE mN l.length l
def Ev (xs:List ak):Nat→List ah→List aH→List a7
 | i,r :: a,w :: ws=>vh (pj xs (i:Int) r (pt w))++Ev xs (i+1) a ws
 | _,_,_=>[]
theorem Cp {xs:List ak} {i:Int} {r:ah} {l:List an} {x:a7} (h:x∈pj xs i r l):∃ t∈l,x=⟨i,t.Ids,(be xs (pos r.Pats) t.Ids []).1⟩:=by
 obtain⟨t,b,a⟩:=jf.1 h
 unfold tX at a
 split at a
 ·simp only[j3] at a
  exact⟨t,b,a⟩
 ·cases a
theorem CD {xs:List ak} {i:Int} {r:ah}:∀ (l:List an),(pj xs i r l).length≤l.length
 | []=>by simp[pj]
 | t :: l=>by
  have h1:=CD (xs:=xs) (i:=i) (r:=r) l
  unfold pj at h1 ⊢
  rw[n0,gk,gj]
  have a:(tX xs i r t).length≤1:=by unfold tX;split<;>simp
  omega
theorem IS {xs:List ak} {i:Int} {r:ah} {l:List an} {x y:a7} (c:x∈pj xs i r l) (d:y∈pj xs i r l) (h1:mN x y=false) (f:mN y x=false):x=y:=by
 have b:=CQ x y
 rw[h1,f] at b
 have a:un x y=true:=by
  cases e:un x y with
  | true=>rfl
  | false=>rw[e] at b;cases b
 unfold un at a
 simp only[ha,decide_eq_true_eq] at a
 obtain⟨t,_,rfl⟩:=Cp c
 obtain⟨u,_,rfl⟩:=Cp d
 simp only at a
 rw[a.2]
theorem BT (l:List a7):Srt mN (vh l)∧(vh l).Perm l:=GY xr l (hA _)
theorem Jo {xs:List ak} {i:Int} {r:ah} {l:List an} {A:List a7} (h1:Srt mN A) (c:A.Perm (pj xs i r l)):A=vh (pj xs i r l):=by
 obtain⟨g1,g2⟩:=BT (pj xs i r l)
 exact Fc A _ (fun a d b e f g=>IS (c.mem_iff.1 d) (c.mem_iff.1 e) f g) h1 g1 (c.trans g2.symm)
section
variable {α:Type} {lt:α→α→Bool}
theorem lx (l:List α) (i j:Nat):(swp l i j).length=l.length:=by
 unfold swp;split<;>simp
theorem vO {l:List α} {i j:Nat} {x:α} (h:x∈swp l i j):x∈l:=by
 unfold swp at h
 split at h
 ·rename_i a b c d
  rcases Pp h with h | h
  ·rcases Pp h with h | h
   ·exact h
   ·rw[h];exact mx d
  ·rw[h];exact mx c
 ·exact h
theorem qy (a b:Nat):∀ (n k:Nat) (l:List α),(ss l a b k n).length=l.length
 | 0,_,_=>rfl
 | n+1,k,l=>by unfold ss;rw[qy a b n,lx]
theorem wi {a b:Nat} {x:α}:∀ (n k:Nat) (l:List α),x∈ss l a b k n→x∈l
 | 0,_,_,h=>h
 | n+1,k,l,h=>vO (wi n (k+1) _ h)
theorem Bf (m:Nat):∀ (f i j:Nat) (l:List α),(rot l m f i j).length=l.length
 | 0,_,_,_=>rfl
 | f+1,i,j,l=>by
  unfold rot
  split
  ·rw[qy]
  ·split<;>rw[Bf m f,qy]
theorem y5 {m:Nat} {x:α}:∀ (f i j:Nat) (l:List α),x∈rot l m f i j→x∈l
 | 0,_,_,_,h=>h
 | f+1,i,j,l,h=>by
  unfold rot at h
  split at h
  ·exact wi _ _ _ h
  ·split at h
   ·exact wi _ _ _ (y5 f _ _ _ h)
   ·exact wi _ _ _ (y5 f _ _ _ h)
theorem Fw:∀ (n k:Nat) (l:List α),(shR l k n).length=l.length
 | 0,_,_=>rfl
 | n+1,k,l=>by unfold shR;rw[Fw n,lx]
theorem Fv {x:α}:∀ (n k:Nat) (l:List α),x∈shR l k n→x∈l
 | 0,_,_,h=>h
 | n+1,k,l,h=>vO (Fv n _ _ h)
theorem Ga:∀ (n k:Nat) (l:List α),(shL l k n).length=l.length
 | 0,_,_=>rfl
 | n+1,k,l=>by unfold shL;rw[Ga n,lx]
theorem Fu {x:α}:∀ (n k:Nat) (l:List α),x∈shL l k n→x∈l
 | 0,_,_,h=>h
 | n+1,k,l,h=>vO (Fu n _ _ h)
theorem rq:∀ (f:Nat) (l:List α) (a m b:Nat),(nF lt f l a m b).length=l.length∧∀ x∈nF lt f l a m b,x∈l
 | 0,l,a,m,b=>⟨rfl,fun x h=>h⟩
 | f+1,l,a,m,b=>by
  unfold nF
  split
  ·exact⟨Fw _ _ _,fun x h=>Fv _ _ _ h⟩
  ·split
   ·exact⟨Ga _ _ _,fun x h=>Fu _ _ _ h⟩
   ·simp only
    generalize bsr _ _ _ _=s
    have e:∀ c:Prop,[Decidable c]→(if c then rot l m ((a+b) / 2+m - s - s) (m - s) ((a+b) / 2+m - s - m) else l).length=l.length∧∀ x∈(if c then rot l m ((a+b) / 2+m - s - s) (m - s) ((a+b) / 2+m - s - m) else l),x∈l:=fun c _=>by
     split
     ·exact⟨Bf _ _ _ _ _,fun x h=>y5 _ _ _ _ h⟩
     ·exact⟨rfl,fun x h=>h⟩
    have d:∀ (c:Prop) [Decidable c] (u:List α) (p q r:Nat),(if c then nF lt f u p q r else u).length=u.length∧∀ x∈(if c then nF lt f u p q r else u),x∈u:=fun c _ u p q r=>by
     split
     ·exact rq f u p q r
     ·exact⟨rfl,fun x h=>h⟩
    obtain⟨g,a2⟩:=e (s < m∧m < (a+b) / 2+m - s)
    obtain⟨i,j⟩:=d (a < s∧s < (a+b) / 2) (if s < m∧m < (a+b) / 2+m - s then rot l m ((a+b) / 2+m - s - s) (m - s) ((a+b) / 2+m - s - m) else l) a s ((a+b) / 2)
    obtain⟨c1,c2⟩:=d ((a+b) / 2 < (a+b) / 2+m - s∧(a+b) / 2+m - s < b) (if a < s∧s < (a+b) / 2 then nF lt f (if s < m∧m < (a+b) / 2+m - s then rot l m ((a+b) / 2+m - s - s) (m - s) ((a+b) / 2+m - s - m) else l) a s ((a+b) / 2) else (if s < m∧m < (a+b) / 2+m - s then rot l m ((a+b) / 2+m - s - s) (m - s) ((a+b) / 2+m - s - m) else l)) ((a+b) / 2) ((a+b) / 2+m - s) b
    exact⟨by rw[c1,i,g],fun x h=>a2 x (j x (c2 x h))⟩
theorem wQ:∀ (f:Nat) (l:List α) (a j:Nat),(zQ lt f l a j).length=l.length∧∀ x∈zQ lt f l a j,x∈l
 | 0,l,a,j=>⟨rfl,fun x h=>h⟩
 | f+1,l,a,j=>by
  unfold zQ
  split
  ·obtain⟨h1,b⟩:=wQ f (swp l (j - 1) j) a (j - 1)
   exact⟨by rw[h1,lx],fun x h=>vO (b x h)⟩
  ·exact⟨rfl,fun x h=>h⟩
theorem ug:∀ (f:Nat) (l:List α) (a i b:Nat),(vg lt f l a i b).length=l.length∧∀ x∈vg lt f l a i b,x∈l
 | 0,l,a,i,b=>⟨rfl,fun x h=>h⟩
 | f+1,l,a,i,b=>by
  unfold vg
  split
  ·obtain⟨h1,c⟩:=ug f (zQ lt (i - a+1) l a i) a (i+1) b
   obtain⟨g1,g2⟩:=wQ (lt:=lt) (i - a+1) l a i
   exact⟨by rw[h1,g1],fun x h=>g2 x (c x h)⟩
  ·exact⟨rfl,fun x h=>h⟩
end
theorem wA {x y:Nat} (h:x+y≤4611686018427387904):IntKind.i64.wrap ((x:Int)+(y:Int))=((x+y:Nat):Int):=by
 rw[wr OV OV];omega
theorem wS {x y:Nat} (h:y≤x) (a:x≤4611686018427387904):IntKind.i64.wrap ((x:Int) - (y:Int))=((x - y:Nat):Int):=by
 rw[wr OV OV];omega
theorem wS1 {x:Nat} (h:1≤x) (a:x≤4611686018427387904):IntKind.i64.wrap ((x:Int) - 1)=((x - 1:Nat):Int):=by
 rw[wr OV OV];omega
theorem Dw {x y:Nat} (h:x+y≤4611686018427387904):IntKind.i64.wrap (fA .u64 (IntKind.u64.wrap (IntKind.i64.wrap ((x:Int)+(y:Int)))) 1)=(((x+y) / 2:Nat):Int):=by
 rw[wA h]
 have hu:IntKind.u64.wrap ((x+y:Nat):Int)=((x+y:Nat):Int):=by
  simp only[IntKind.wrap,IntKind.bits,IntKind.signed,qa,gb,if_false]
  have a:(2:Int) ^ 64=18446744073709551616:=by decide
  rw[a];omega
 rw[hu]
 have b:fA .u64 ((x+y:Nat):Int) 1=(((x+y) / 2:Nat):Int):=by
  unfold fA
  have e:(2:Int) ^ (min (1:Int).toNat IntKind.u64.bits)=2:=by decide
  rw[e,Int.fdiv_eq_ediv_of_nonneg _ OV]
  omega
 rw[b]
 exact wr OV OV
theorem rS {α:Type} {l:List α} {i j:Nat} {x y:α} (h1:l[i]?=some x) (a:l[j]?=some y):swp l i j=(l.set i y).set j x:=by
 unfold swp;rw[h1,a]
theorem Fi (N a b n:Nat):∀ (fuel:Nat) (l:List a7) (i:Nat),n - i < fuel→i≤n→a+n≤l.length→b+n≤l.length→l.length≤4294967296 →
  bG N (a:Int) (b:Int) (n:Int) fuel l (i:Int)=some (ss l a b i (n - i))
 | 0,l,i,h,_,_,_,_=>by omega
 | fuel+1,l,i,h,o,g,j,k=>by
  by_cases c:i < n
  ·have c1:decide ((i:Int) < (n:Int))=true:=decide_eq_true OV
   have d:a+i < l.length:=by omega
   have e:b+i < l.length:=by omega
   have m:b+i < (l.set (a+i) l[b+i]).length:=by rw[qo];omega
   have f:=Fi N a b n fuel (swp l (a+i) (b+i)) (i+1) OV OV (by rw[lx];exact g) (by rw[lx];exact j) (by rw[lx];exact k)
   rw[rS (gx d) (gx e)] at f
   rw[show n - i=(n - (i+1))+1 by omega,ss,rS (gx d) (gx e)]
   simp only[bG,c1,if_true,wA (x:=b) (y:=i) OV,wA (x:=a) (y:=i) OV,ag d,ag e,fI,hQ,ag m,wr1 i OV,f]
  ·have c1:decide ((i:Int) < (n:Int))=false:=decide_eq_false OV
   rw[show n - i=0 by omega]
   simp only[bG,c1,gb,if_false,ss]
theorem Eo {N a b n:Nat} (p:a7→a7→Option Int) (l:List a7) (f:n < N) (c:a+n≤l.length) (d:b+n≤l.length) (e:l.length≤4294967296):bZ N l (a:Int) (b:Int) (n:Int) p=some (ss l a b 0 n):=by
 unfold bZ
 have:=Fi N a b n N l 0 OV OV c d e
 simpa using this
theorem Iz {N m:Nat} (p:a7→a7→Option Int):∀ (f fuel:Nat) (l:List a7) (i j:Nat),i+j≤f→f < fuel→f < N→0 < i→0 < j→i≤m→m+j≤l.length→l.length≤4294967296 →
  bo N (m:Int) p fuel l (i:Int) (j:Int)=some (rot l m f i j)
 | 0,_,_,_,_,h1,_,_,q,_,_,_,_=>by omega
 | f+1,0,_,_,_,_,r,_,_,_,_,_,_=>by omega
 | f+1,fuel+1,l,i,j,h1,r,t,q,s,e,g,d=>by
  unfold rot
  by_cases c:i=j
  ·subst c
   have:=Eo (N:=N) (a:=m - i) (b:=m) (n:=i) p l OV OV g d
   simp only[bo,decide_true,hI,gb,if_false,wS (x:=m) (y:=i) e OV,this,fI,if_true]
  ·have c1:decide ((i:Int)=(j:Int))=false:=decide_eq_false OV
   by_cases c2:j < i
   ·have h:decide ((j:Int) < (i:Int))=true:=decide_eq_true OV
    have k:=Eo (N:=N) (a:=m - i) (b:=m) (n:=j) p l OV OV g d
    have o:=Iz (N:=N) (m:=m) p f fuel (ss l (m - i) m 0 j) (i - j) j OV OV OV OV s OV (by rw[qy];exact g) (by rw[qy];exact d)
    simp only[bo,c1,hW,if_true,h,wS (x:=m) (y:=i) e OV,k,fI,wS (x:=i) (y:=j) OV OV,o,if_neg c,if_pos c2]
   ·have h:decide ((j:Int) < (i:Int))=false:=decide_eq_false OV
    have k:=Eo (N:=N) (a:=m - i) (b:=m+j - i) (n:=i) p l OV OV OV d
    have o:=Iz (N:=N) (m:=m) p f fuel (ss l (m - i) (m+j - i) 0 i) i (j - i) OV OV OV q OV e (by rw[qy];omega) (by rw[qy];exact d)
    simp only[bo,c1,hW,if_true,h,gb,if_false,wS (x:=m) (y:=i) e OV,wA (x:=m) (y:=j) OV,wS (x:=m+j) (y:=i) OV OV,k,fI,wS (x:=j) (y:=i) OV OV,o,if_neg c,if_neg c2]
theorem Hn {N a m b:Nat} (p:a7→a7→Option Int) (l:List a7) (c:b - a < N) (h1:a < m) (e:m < b) (f:b≤l.length) (d:l.length≤4294967296) :
  dM N l (a:Int) (m:Int) (b:Int) p=some (rot l m (b - a) (m - a) (b - m)):=by
 unfold dM
 rw[wS (x:=m) (y:=a) OV OV,wS (x:=b) (y:=m) OV OV]
 exact Iz p (b - a) N l (m - a) (b - m) OV c c OV OV OV OV d
def tJ (p:a7→a7→Option Int) (lt:a7→a7→Bool) (l:List a7):Prop:=∀ x∈l,∀ y∈l,∃ v,p x y=some v∧lt x y=decide (v < 0)
theorem tJ.sub {p:a7→a7→Option Int} {lt:a7→a7→Bool} {l u:List a7} (h:tJ p lt l) (a:∀ x∈u,x∈l):tJ p lt u:=fun x b y c=>h x (a x b) y (a y c)
theorem tJ.at_ {p:a7→a7→Option Int} {lt:a7→a7→Bool} {l:List a7} (h:tJ p lt l) {i j:Nat} (a:i < l.length) (b:j < l.length):∃ v,p l[i] l[j]=some v∧um lt l i j=decide (v < 0):=by
 obtain⟨v,h1,c⟩:=h _ (hK a) _ (hK b)
 exact⟨v,h1,by rw[mJ (gx a) (gx b),c]⟩
theorem La (N a:Nat):∀ (fuel:Nat) (l:List a7) (k:Nat),a - k < fuel→1≤a→a≤l.length→l.length≤4294967296→cD N (a:Int) fuel l (k:Int)=some (shR l k (a - 1 - k))
 | 0,l,k,h,_,_,_=>by omega
 | fuel+1,l,k,h,h1,f,g=>by
  rw[cD,wS1 h1 OV]
  by_cases c:k < a - 1
  ·have c1:decide ((k:Int) < ((a - 1:Nat):Int))=true:=decide_eq_true OV
   have b:k < l.length:=by omega
   have d:k+1 < l.length:=by omega
   have i:k+1 < (l.set k l[k+1]).length:=by rw[qo];omega
   have e:=La N a fuel (swp l k (k+1)) (k+1) OV h1 (by rw[lx];exact f) (by rw[lx];exact g)
   rw[rS (gx b) (gx d)] at e
   rw[show a - 1 - k=(a - 1 - (k+1))+1 by omega,shR,rS (gx b) (gx d)]
   simp only[c1,if_true,wr1 k OV,ag b,ag d,fI,hQ,ag i,e]
  ·have c1:decide ((k:Int) < ((a - 1:Nat):Int))=false:=decide_eq_false OV
   rw[show a - 1 - k=0 by omega]
   simp only[c1,gb,if_false,shR]
theorem Lq (N a:Nat):∀ (fuel:Nat) (l:List a7) (k:Nat),k - a < fuel→k < l.length→l.length≤4294967296→cE N (a:Int) fuel l (k:Int)=some (shL l k (k - a))
 | 0,l,k,h,_,_=>by omega
 | fuel+1,l,k,h,b,g=>by
  rw[cE]
  by_cases c:a < k
  ·have c1:decide ((a:Int) < (k:Int))=true:=decide_eq_true OV
   have d:k - 1 < l.length:=by omega
   have i:k - 1 < (l.set k l[k - 1]).length:=by rw[qo];omega
   have f:=Lq N a fuel (swp l (k - 1) k) (k - 1) OV (by rw[lx];omega) (by rw[lx];exact g)
   have e:=rS (gx d) (gx b)
   rw[List.set_comm _ _ (show k - 1≠k by omega)] at e
   rw[e] at f
   rw[show k - a=(k - 1 - a)+1 by omega,shL,e]
   simp only[c1,if_true,wS1 (x:=k) OV OV,ag d,ag b,fI,hQ,ag i,f]
  ·have c1:decide ((a:Int) < (k:Int))=false:=decide_eq_false OV
   rw[show k - a=0 by omega]
   simp only[c1,gb,if_false,shL]
theorem Hx {N a:Nat} {p:a7→a7→Option Int} {lt:a7→a7→Bool} {l:List a7} (d:tJ p lt l) (b:a < l.length) (e:l.length≤4294967296) (g:l.length < N) :
  ∀ (f fuel i j:Nat),j - i < f→j - i < fuel→a < i→i≤j→j≤l.length→bu N l (a:Int) p fuel (i:Int) (j:Int)=some (shR l a (bsr (fun h=>um lt l h a) f i j - 1 - a))
 | 0,_,_,_,h,_,_,_,_=>by omega
 | f+1,0,_,_,_,h,_,_,_=>by omega
 | f+1,fuel+1,i,j,h1,o,m,q,n=>by
  rw[bu,bsr]
  by_cases c:i < j
  ·have c1:decide ((i:Int) < (j:Int))=true:=decide_eq_true OV
   have hm:(i+j) / 2 < l.length:=by omega
   obtain⟨v,v1,v2⟩:=d.at_ hm b
   simp only[c1,if_true,Dw (x:=i) (y:=j) OV,ag hm,ag b,fI,v1,if_pos c,v2]
   by_cases k:v < 0
   ·simp only[k,decide_true,if_true,wr1 ((i+j) / 2) OV]
    exact Hx d b e g f fuel _ _ OV OV OV OV n
   ·simp only[k,decide_false,gb,if_false]
    exact Hx d b e g f fuel _ _ OV OV m OV OV
  ·have c1:decide ((i:Int) < (j:Int))=false:=decide_eq_false OV
   simp only[c1,gb,if_false,if_neg c]
   exact La N i N l a OV OV OV e
theorem Hr {N m:Nat} {p:a7→a7→Option Int} {lt:a7→a7→Bool} {l:List a7} (b:tJ p lt l) (a:m < l.length) (d:l.length≤4294967296) (e:l.length < N) :
  ∀ (f fuel i j:Nat),j - i < f→j - i < fuel→i≤j→j≤m→bv N l (m:Int) p fuel (i:Int) (j:Int)=some (shL l m (m - bsr (fun h=>!um lt l m h) f i j))
 | 0,_,_,_,h,_,_,_=>by omega
 | f+1,0,_,_,_,h,_,_=>by omega
 | f+1,fuel+1,i,j,h1,n,o,k=>by
  rw[bv,bsr]
  by_cases c:i < j
  ·have c1:decide ((i:Int) < (j:Int))=true:=decide_eq_true OV
   have hm:(i+j) / 2 < l.length:=by omega
   obtain⟨v,v1,v2⟩:=b.at_ a hm
   simp only[c1,if_true,Dw (x:=i) (y:=j) OV,ag hm,ag a,fI,v1,if_pos c,v2]
   by_cases g:v < 0
   ·simp only[g,decide_true,hI,gb,if_false]
    exact Hr b a d e f fuel _ _ OV OV OV OV
   ·simp only[g,decide_false,hW,if_true,wr1 ((i+j) / 2) OV]
    exact Hr b a d e f fuel _ _ OV OV OV k
  ·have c1:decide ((i:Int) < (j:Int))=false:=decide_eq_false OV
   simp only[c1,gb,if_false,if_neg c]
   exact Lq N i N l m OV a d
end Go.Proofs.YtedmfnmbjglmbaaGreat
