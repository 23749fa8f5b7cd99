/- Printed by a program of ours: each Go function computes its Lean function. -/
import Derived.Test.YtedmfnmbjglmbaaGreatProg
import Derived.Test.YtedmfnmbjglmbaaGreatWNetworkWalk10
namespace Go.Proofs.YtedmfnmbjglmbaaGreat
open Eng Tryz
open Go.RowKit (Below)
set_option linter.unusedVariables false
set_option linter.unusedSimpArgs false

set_option maxRecDepth 100000
set_option maxHeartbeats 8000000
variable {d f:Hp} {e a i:Value} {j g pG0:List Nat} (N:Nat)
theorem Ag (w0:aA d f []) (p:bq) (o:af) (M:RSl eC 5 d j e p.Rules) (ah:RSl bm 3 d g a o.Items) {r:(List a7)} (h:qN N p o=some r) :
  Calls prog 73 [.agg [.string p.Name,e].toArray,.agg [a,iV o.Next].toArray].toArray w0.w (bc f w0.w [] (fun ai Fs v=>∃ (O:Value) (a6:List Nat) (X:List Nat),v=O∧Fs=[ob O,X]∧OSl cM 63 3 ai a6 O r∧(∀ k∈a6,k∈X))):=by
 refine eN func73 J ntmps73 J w0 fun hF=>?_
 unfold qN at h
 refine sr<|lbx J fun z=>lbx J fun A=>arr 4 [] J ?_
 have aj:RC av 3 f ([]:List (List Nat)) [] ([]:List a7):=RC.nil _ _ _
 refine le' (bv (vs:=[]) (C:=#[]) av.lasts ep nA J J J J (ao C6 (ae)) J aj J (by simpa using Kw.nil)) J ?_
 rintro v1 P D1 ⟨aJ,h1⟩
 replace h1:OSl av 63 3 P [] v1 ([]:List a7):=by simpa[gi] using h1
 refine WL.conv (S':=St w0 P [(A,.cells #[a,iV o.Next] 29 (0,0)),(z,.cells #[.string p.Name,e] 26 (0,0))] [[],ob v1]) (fun E hw=>hw.addNil)<|art 8 [] J<|wt0 ?_
 replace h1:=h1.gives av.gives
 refine lin (σ:=Hp × List Nat × (List a7) × Value × List Nat × Int) (fun s=>[(2,pQ z),(3,pQ A),(5,s.2.2.2.1),(6,iV s.2.2.2.2.2)]) (fun s=>St w0 s.1 [(A,.cells #[a,iV o.Next] 29 (0,0)),(z,.cells #[.string p.Name,e] 26 (0,0))] [s.2.1,ob s.2.2.2.1]) (fun m s=>fK N p o m s.2.2.1 s.2.2.2.2.2=some r∧(OSl cM 63 3 s.1 s.2.2.2.2.1 s.2.2.2.1 s.2.2.1)∧(∀ k∈s.2.2.2.2.1,k∈s.2.1)) (P,[],([]:List a7),v1,[],0) N ⟨h,h1,OZ⟩ (sx [0,1] [0,0]) (fun n1 al s hm=>?_)
 obtain⟨aL,n,s1,Q,D2,s2⟩:=s
 obtain⟨h,B,G⟩:=hm
 dsimp only at h B G ⊢
 unfold fK at h
 refine atr 6 [1,32] J<|lnr M J<|la J<|en ?_
 refine ch h J ?_ ?_ <;> intro h
 ·refine att 4 [] J<|wm [0,1] [] J<|amm 3 [0,1,1,32,2] [0,1] J J ?_
  obtain⟨S,ab,h⟩:=bs h
  obtain⟨aM,F1,-,g1,aN,aO,r1⟩:=M.el (a8 ab).2.2
  obtain⟨v2,G1,v3,G2,v4,G3,rfl,rfl,h2,h3,h4⟩:=r1
  refine mq 3 J OX (kN [0,1]) (ak yW J J M ab) J<|mq 4 J OX (kN [0,1]) (ay rL J (fun E hw=>(g1.of_eq 0 5 J J:rg _ _ _ [.string S.Name,iV S.Sal,v2,v3,v4]).rangeAt hw.1) J) J<|amm 1 [5,2] [0,1] J J ?_
  obtain⟨x2,an,h⟩:=bs h
  refine WM.one 6 OX (mc J (fun _ v aP D E hq hw=>Kn.of Kf.nil (ai2 0 1 J J) hw) (bL (js:=[]) (R:=[n,ob Q]) Jb J J (fun E hw ap hl=>C0 N (ba hw.fro) S o (h2.y hw.up) (h3.y hw.up) (h4.y hw.up) (ah.y hw.up)  an)) J ?_)
  rintro v5 aq F2 ⟨ad,ar,v6,D3,rfl,rfl,h5⟩
  replace B:=B.fr ar (ad.q 1 J) (Dj.sub (ad.q 0 J) G)
  refine amm 1 [7] [0,1] J J<|WM.nil OX<|att 5 [] J ?_
  refine lin (σ:=Hp × (List a7) × Value × List Nat × (List a7) × List Nat × Int) (fun s=>[(2,pQ z),(3,pQ A),(5,s.2.2.1),(6,iV s2),(7,v5),(8,iV s.2.2.2.2.2.2)]) (fun s=>St w0 s.1 [(A,.cells #[a,iV o.Next] 29 (0,0)),(z,.cells #[.string p.Name,e] 26 (0,0))] [ob v5,s.2.2.2.2.2.1,n,ob s.2.2.1]) (fun m s=>kj N s2 (fK N p o n1) m s.2.1 s.2.2.2.2.1 s.2.2.2.2.2.2=some r∧(OSl cM 63 3 s.1 s.2.2.2.1 s.2.2.1 s.2.1)∧(∀ k∈s.2.2.2.1,k∈(n++s.2.2.2.2.2.1))∧(OSl av 63 3 s.1 s.2.2.2.2.2.1 v5 s.2.2.2.2.1)) (aq,s1,Q,D2,x2,D3,0) N ⟨h,B,(fun k hk=>(gh.2 (.inl (G k hk)))),h5⟩ (sx [0,0,0,0] [0,0]) (fun n2 au s hm=>?_)
  obtain⟨aQ,s3,T,D4,s4,D5,s5⟩:=s
  obtain⟨h,u,i2,U⟩:=hm
  dsimp only at h u i2 U ⊢
  unfold kj at h
  refine atr 5 [] J<|lno U J<|la J<|en ?_
  refine ch h J ?_ ?_ <;> intro h
  ·refine atr 8 [] J ?_
   obtain⟨y,V,h⟩:=bs h
   obtain⟨aR,F3,H,h6,r2,aS,aw,W⟩:=U.focusM V
   obtain⟨b,l,rfl,rfl,q,t⟩:=r2
   refine wlL [ob b,ob l,H,ob v5,n,ob T] (sre [1] [ob b,ob l,H] J (by simpa[gi] using aw))<|lih h6 V J<|lf I4 J J J<|lu (us [3] [ob b,ob l,H,n,ob T] 0 av.lasts A6 J J J J h6 J (fun ap=>ap.q 2 J)) J ?_
   rintro ax D7 ⟨⟨w,Y⟩,x⟩
   replace u:=u.fr Y (w.q 4 J) (Dj.sub (Dj.app (w.q 3 J) (Dj.sub (Dj.app (Dj.app (Dj.sub (w.q 0 J) lC) (Dj.sub (w.q 1 J) lC)) (w.q 2 J)) W)) i2)
   replace q:=q.fr Y (w.q 0 J) dN
   replace t:=t.fr Y (w.q 1 J) dN
   refine arr 5 [] J<|lih x V J<|lgx 0 3 x.rg J ?_
   have ag:RC cM 3 ax ([(ob b++[])++((ob l++[]))]:List (List Nat)) [iV s2,b,l] ([(⟨s2,y.Ids,y.Binds⟩:a7)]:List a7):=RC.cons (c:=[iV s2,b,l]) (cells:=[]) ⟨b,(ob b++[]),l,(ob l++[]),J,J,q.rsl,t.rsl⟩ J (RC.nil _ _ _)
   refine le' (bv (vs:=[(0,.agg [iV s2,b,l].toArray)]) (C:=#[iV s2,b,l]) cM.lasts ep nA J J J J (ao sB (aa (C':=[iV s2,b,l]) J J J J J (ae))) J ag J (RC.kn cM.knows ag)) J ?_
   rintro v9 az D8 ⟨I,Z⟩
   replace Z:OSl cM 63 3 az ((ob b++[])++((ob l++[]))) v9 ([(⟨s2,y.Ids,y.Binds⟩:a7)]:List a7):=by simpa[gi] using Z
   replace u:=u.f0 I
   replace x:=x.f0 I
   replace q:=q.f0 I
   replace t:=t.f0 I
   obtain⟨x4,aB,h⟩:=bs h
   refine le' (et cM.lasts cM.one ep xk J J J J J (js:=[6]) (Rr:=[ob v9,ob v5,ob b,ob l,H,n]) J u Z (fun ap=>(Dj.sub (Dj.app (ap.q 5 J) (Dj.sub (Dj.app (Dj.app (Dj.sub (ap.q 2 J) lC) (Dj.sub (ap.q 3 J) lC)) (ap.q 4 J)) W)) i2)) (fun ap=>(Dj.sub (Dj.app (Dj.sub (ap.q 2 J) lC) (Dj.sub (ap.q 3 J) lC)) (fun k hk=>(by simpa[gi] using hk:k∈((ob b++[])++(ob l++[])))))) aB) J ?_
   rintro v10 aD D9 ⟨⟨K,a1⟩,aE⟩
   replace x:=x.fr a1 (K.q 1 J) (K.q 4 J)
   replace q:=q.fr a1 (K.q 2 J) dN
   replace t:=t.fr a1 (K.q 3 J) dN
   refine art 8 [] J ?_
   have r3:av aD _ [iV s2,b,l] (⟨s2,y.Ids,y.Binds⟩:a7):=⟨b,l,J,J,q,t⟩
   obtain⟨aF,aG,aH,L,aI⟩:=x.unfocusM r3 (av.knows _ _ _ _ r3)
   refine wtL [aF,ob v10,ob v9,ob v5,n] (smg [3,3,3] J (by simpa[gi,cT] using aH)) ?_
   exact lb [3,0,2,0] [0,0] (au (_,_,_,_,_,_,_) ⟨h,aE,(fun k hk=>((gh.1 hk).elim (fun h=>((gh.1 (i2 k h)).elim (fun h=>(gh.2 (.inl h))) (fun h=>((gh.1 (W k h)).elim (fun h=>((gh.1 h).elim (fun h=>(gh.2 (.inr ((fun k hk=>L k (gh.2 (.inl (gh.2 (.inl hk))))) k (lC k h))))) (fun h=>(gh.2 (.inr ((fun k hk=>L k (gh.2 (.inr (gh.2 (.inl hk))))) k (lC k h))))))) (fun h=>(gh.2 (.inr (aI k h)))))))) (fun h=>((gh.1 ((fun k hk=>(by simpa[gi] using hk:k∈((ob b++[])++(ob l++[])))) k h)).elim (fun h=>(gh.2 (.inr ((fun k hk=>L k (gh.2 (.inl (gh.2 (.inl hk))))) k (lC k h))))) (fun h=>(gh.2 (.inr ((fun k hk=>L k (gh.2 (.inr (gh.2 (.inl hk))))) k (lC k h))))))))),aG⟩)
  refine att 7 [] J<|wtL [(n++(D5)),ob v5,ob T] (smg [2,1] J (SP.eq (by simp[gi]))) ?_
  exact lb [0,1] [0,0] (al (_,_,_,_,_,_) ⟨h,u,(fun k hk=>((gh.1 (i2 k hk)).elim (fun h=>((fun k hk=>(gh.2 (.inl hk))) k h)) (fun h=>((fun k hk=>(gh.2 (.inr hk))) k h))))⟩)
 refine att 6 [] J ?_
 refine WT.ret hF (aC.one J) (fun E hw=>?_)
 cases h
 replace hw:=hw.merge (js:=[0]) (F:=[n].flatten) J (SP.eq OZ)
 refine aK (js:=[1,0]) hw J ⟨Q,D2,[n].flatten,J,J,B,(fun k hk=>(List.mem_flatten.2 ⟨n,OZ,(G k hk)⟩))⟩
theorem vC (w0:aA d f []) (l:bq) (m:af) (p:RSl eC 5 d j e l.Rules) (s:RSl bm 3 d g a m.Items) {r:(List a7)} (h:kJ N l m=some r) :
  Calls prog 33 [.agg [.string l.Name,e].toArray,.agg [a,iV m.Next].toArray].toArray w0.w (bc f w0.w [] (fun B Fs v=>∃ (n:Value) (t:List Nat) (X:List Nat),v=n∧Fs=[ob n,X]∧OSl cM 63 3 B t n r∧(∀ k∈t,k∈X))):=by
 refine eN func33 J ntmps33 J w0 fun u=>?_
 unfold kJ at h
 refine sr<|lbx J fun w=>lbx J fun x=>arr 6 [34] J<|qd h (Bk N · l p ·) J J J fun L h=>arr 2 [] J ?_
 obtain⟨D,c,h⟩:=bs h
 refine WL.cutN 4 [(12,.bool D),(2,pQ w),(3,pQ x)] ?_ (fun K=>?_)
 rotate_left
 ·refine sp 8 c J (fun c=>?_) fun c=>?_
  ·refine arr 4 [] J ?_
   cases c
   exact ku K
  ·refine ly J J<|ld2 sm 0 J<|ly J J<|qd c (zB N · m s ·) J J J fun M c=>arr 2 [] J ?_
   cases c
   exact ku K
 refine en ?_
 refine ch h J ?_ ?_ <;> intro h
 ·refine sr ?_
  have E:RC av 3 f ([]:List (List Nat)) [] ([]:List a7):=RC.nil _ _ _
  refine le' (bv (vs:=[]) (C:=#[]) av.lasts ep nA J J J J (ao C6 (ae)) J E J (by simpa using Kw.nil)) J ?_
  rintro v1 y O ⟨P,h1⟩
  replace h1:OSl av 63 3 y [] v1 ([]:List a7):=by simpa[gi] using h1
  refine WL.conv (S':=St w0 y [(x,.cells #[a,iV m.Next] 29 (0,0)),(w,.cells #[.string l.Name,e] 26 (0,0))] [[],ob v1]) (fun A hw=>hw.addNil)<|la J<|en ?_
  refine WT.ret u (aC.one J) (fun A hw=>?_)
  cases h
  replace hw:=hw.merge (js:=[0]) (F:=[[]].flatten) J (SP.eq OZ)
  refine aK (js:=[1,0]) hw J ⟨v1,[],[[]].flatten,J,J,(h1.gives av.gives),OZ⟩
 refine atr 5 [34,2] J<|kab h J J J (fun b z q=>Ag N b l m (p.y z) (s.y z) q) ?_
 rintro Q h v2 R S ⟨T,U,v3,G,o,rfl,rfl,H,I⟩
 refine la J<|en ?_
 refine WT.ret u (aC.one J) (fun A hw=>?_)
 cases h
 replace hw:=hw.merge (js:=[1]) (F:=[o].flatten) J (SP.eq OZ)
 refine aK (js:=[1,0]) hw J ⟨v2,G,[o].flatten,J,J,H,(fun k hk=>(List.mem_flatten.2 ⟨o,OZ,(I k hk)⟩))⟩
theorem wX (w0:aA d f []) (E:(List Int)) (L:RSl (RI .u8) 1 d pG0 i E) {r:Bool} (h:lS N E=some r) :
  CB w0 prog 7 [i] (.bool r):=by
 refine eN func7 J ntmps7 J w0 fun M=>?_
 unfold lS at h
 refine atr 8 [] J<|qd h (Es N · E L ·) J J J fun x1 h=>en ?_
 refine ch h J ?_ ?_ <;> intro h
 ·refine att 4 [] J ?_
  exact rt M h
 refine atr 4 [] J<|kab h J J J (fun b z q=>yz N b E (L.y z) q) ?_
 rintro c h v1 a6 F1 ⟨a7,a8,v2,v,v3,D2,v4,D3,v5,D4,v6,D5,o,O,F,rfl,rfl,h1,G,V,H,C,D,k,i2⟩
 refine arr 5 [] J<|lnz yb J fun p=>lnz tq J fun aa=>lnz tc J fun ab=>lnz AR J fun t=>soN 3 AI J ⟨J,h1.one,trivial⟩ J ?_
 refine soN 2 ww J ⟨G.one,H.one,trivial⟩ J ?_
 refine soN 1 uD J ⟨C.one,D.one,trivial⟩ J ?_
 refine soN 0 EP J ⟨k.one,J,trivial⟩ J ?_
 refine arr 6 [98,34,2] J<|kab h J J J (fun b z q=>Bx N b c.1 c.2.2.1 c.2.2.2 (h1.rslG dI.gives) (C.rslG cz.gives) (D.rslG bU.gives) k.rsl q) ?_
 rintro w h m P F2 ⟨l,x,v9,y,rfl,rfl,n⟩
 replace h1:=h1.fr x (l.q 0 J) (l.q 1 J)
 replace G:=G.fr x (l.q 2 J) (Dj.sub (l.q 10 J) V)
 replace H:=H.fr x (l.q 3 J) (l.q 4 J)
 replace C:=C.fr x (l.q 5 J) (l.q 6 J)
 replace D:=D.fr x (l.q 7 J) (l.q 8 J)
 replace k:=k.fr x (l.q 9 J) (Dj.sub (l.q 10 J) i2)
 refine arr 6 [66,98] J<|qc h (Bv N · c.2.1 c.1 G.rsl (H.rslG bI.gives) (h1.rslG dI.gives) ·) J J J fun x5 h=>la J ?_
 obtain⟨W,u,h⟩:=bs h
 refine WL.cutN 5 [(29,.bool W),(3,pQ p),(6,pQ t),(7,m)] ?_ (fun K=>?_)
 rotate_left
 ·refine sp 24 u J (fun u=>?_) fun u=>?_
  ·refine arr 3 [98,34,2] J<|ly J J<|qc u (xI N · c.1 c.2.2.1 c.2.2.2 (h1.rslG dI.gives) (C.rslG cz.gives) (D.rslG bU.gives) k.rsl ·) J J J fun x6 u=>la J ?_
   cases u
   exact ku K
  ·refine arr 5 [] J ?_
   cases u
   exact ku K
 refine la J ?_
 refine WL.cutS 6 (σ:=Hp × Bool) (fun s=>[(3,pQ p),(6,pQ t),(7,m),(36,.bool s.2)]) (fun s=>St w0 s.1 [(t,.cells #[o,iV c.2.2.2.Next] 29 (0,0)),(p,.cells #[.string c.1.Name,v2] 26 (0,0))] [ob m,y,ob v2,v,ob o,F]) (fun s=>iq N c w s.2=some r∧(OSl dI 87 5 s.1 v v2 c.1.Rules)∧(OSl bm 66 3 s.1 O o c.2.2.2.Items)∧(OSl av 63 3 s.1 y m w)) (fun s hm=>?_) (fun K=>?_)
 ·clear h
  obtain⟨A,s1⟩:=s
  obtain⟨h,h1,k,n⟩:=hm
  replace h:iq N c w s1=some r:=h
  replace h1:OSl dI 87 5 A v v2 c.1.Rules:=h1
  replace k:OSl bm 66 3 A O o c.2.2.2.Items:=k
  replace n:OSl av 63 3 A y m w:=n
  show WL _ _ _ _ [(3,pQ p),(6,pQ t),(7,m),(36,.bool s1)] (St w0 A [(t,.cells #[o,iV c.2.2.2.Next] 29 (0,0)),(p,.cells #[.string c.1.Name,v2] 26 (0,0))] [ob m,y,ob v2,v,ob o,F])
  unfold iq at h
  refine la J ?_
  refine WL.cutS 6 (σ:=Hp × Bool) (fun s=>[(43,.bool s.2)]) (fun s=>St w0 s.1 [] []) (fun s=>io N s.2=some r) (fun s hm=>?_) (fun K=>?_)
  ·clear h
   obtain⟨X,s2⟩:=s
   have h:io N s2=some r:=hm
   show WL _ _ _ _ [(43,.bool s2)] (St w0 X [] [])
   unfold io at h
   refine la J<|en ?_
   exact rt M h
  refine sp 37 h J (fun h=>?_) fun h=>?_
  ·refine arr 3 [34,2] J<|ly J J<|kab h J J J (fun b z q=>vC N b c.1 c.2.2.2 (h1.rslG dI.gives) k.rsl q) ?_
   rintro Y h v10 Q F3 ⟨R,Z,v11,D8,X2,rfl,rfl,h8,i3⟩
   replace n:=n.fr Z (R.q 0 J) (R.q 1 J)
   refine ly J J<|qc h (to N · w Y (n.rslG av.gives) h8.rsl ·) J J J fun S h=>la J<|WL.mono (l':=[(43,.bool S)]) (S':=St w0 Q [] []) (by exact⟨rfl,trivial⟩) (sx [] []) ?_
   exact K (Q,S) h
  refine arr 6 [] J<|WL.mono (l':=[(43,.bool false)]) (S':=St w0 A [] []) (by exact⟨rfl,trivial⟩) (sx [] []) ?_
  exact K (A,false) h
 refine sp 30 h J (fun h=>?_) fun h=>?_
 ·refine arr 3 [98,2] J<|ly J J<|kab h J J J (fun b z q=>vG N b c.1 c.2.2.2 (h1.rslG dI.gives) k.rsl q) ?_
  rintro a1 h v12 T F4 ⟨B,I,ad,D9,X3,rfl,rfl,h9,i4⟩
  replace h1:=h1.fr I (B.q 2 J) (B.q 3 J)
  replace k:=k.fr I (B.q 11 J) (Dj.sub (B.q 12 J) i2)
  replace n:=n.fr I (B.q 0 J) (B.q 1 J)
  refine ly J J<|qc h (to N · w a1 (n.rslG av.gives) h9.rsl ·) J J J fun U h=>la J<|WL.mono (l':=[(3,pQ p),(6,pQ t),(7,m),(36,.bool U)]) (S':=St w0 T [(t,.cells #[o,iV c.2.2.2.Next] 29 (0,0)),(p,.cells #[.string c.1.Name,v2] 26 (0,0))] [ob m,y,ob v2,v,ob o,F]) (by exact⟨rfl,rfl,rfl,rfl,trivial⟩) (sx [2,2,2,2,9,9] [0,2]) ?_
  exact K (T,U) ⟨h,h1,k,n⟩
 refine arr 6 [] J<|WL.mono (l':=[(3,pQ p),(6,pQ t),(7,m),(36,.bool false)]) (S':=St w0 P [(t,.cells #[o,iV c.2.2.2.Next] 29 (0,0)),(p,.cells #[.string c.1.Name,v2] 26 (0,0))] [ob m,y,ob v2,v,ob o,F]) (by exact⟨rfl,rfl,rfl,rfl,trivial⟩) (sx [0,0,0,0,7,7] [0,2]) ?_
 exact K (P,false) ⟨h,h1,k,n⟩
end Go.Proofs.YtedmfnmbjglmbaaGreat
