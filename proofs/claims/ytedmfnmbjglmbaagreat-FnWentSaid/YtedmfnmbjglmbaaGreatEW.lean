/-
  The engine, part W: a row out of which elements go (slices.DeleteFunc): those that stay stand in front, then a gap, then those that are not asked yet.
  Nothing here names a program.
-/
import Derived.Test.YtedmfnmbjglmbaaGreatEV
import Derived.Test.YtedmfnmbjglmbaaGreatEN
namespace Go.Proofs.YtedmfnmbjglmbaaGreat.Eng
set_option linter.unusedVariables false
set_option linter.unusedSimpArgs false
variable {l:Env} {Ψ0 H0:Hp} {B0:List Nat} {w0:aA Ψ0 H0 B0} {Φ Φ':Hp} {O:gK} {L:List (List Nat)} {w w':World} {S:World→Prop} {P:Program}
variable {α:Type} {R:Hp→List Nat→List Value→α→Prop} {t e sz i j n:Nat} {x y:Operand} {v u:Value} {vs cs c:List Value} {xs ys zs:List α} {D F:List Nat} {js:List Nat} {Rr:List (List Nat)} {a b z x':α}
def zH (p:α→Option Bool):List α→Option (List α)
  | []=>some []
  | x :: t=>(p x).bind fun b=>(zH p t).bind fun r=>some (if b then r else x :: r)
theorem SP.is_nil {A:List Nat} (h:SP A []):A=[]:=by
  obtain⟨C,h⟩:=h
  have:=h.length_eq
  simp at this
  exact this.1
theorem Gj {x a b:Int} (c:0≤x) (h:x < 4294967296) (e:x+1+a=b):IntKind.i64.wrap (x+1)+a=b:=by rw[HT c h];exact e
theorem NN {x a:Int} (b:0≤x) (h:x < 4294967296) (e:x+1=a):IntKind.i64.wrap (x+1)=a:=by rw[HT b h];exact e
structure GSl (R:Hp→List Nat→List Value→α→Prop) (e sz:Nat) (Φ:Hp) (D:List Nat) (v:Value) (n:Nat) (ys zs:List α):Prop where
  kn:Kw Φ D
  le:ys.length+zs.length≤n
  pos:0 < n
  ex:∃ (cells:List Value) (Fs Gs:List (List Nat)),nD Φ e sz v n cells∧Fs.length=ys.length∧Gs.length=zs.length∧D=Fs.flatten++Gs.flatten ∧
    (∀ k x,ys[k]?=some x→R Φ (Fs.getD k []) ((cells.drop (k*sz)).take sz) x)∧∀ k x,zs[k]?=some x→R Φ (Gs.getD k []) ((cells.drop ((n - zs.length+k)*sz)).take sz) x
theorem GSl.form (h:GSl R e sz Φ D v n ys zs):∃ a c,v = .slice a n c∧n≤c:=by
  obtain⟨cells,Fs,Gs,g1,_⟩:=h.ex
  exact g1.form
theorem GSl.one (h:GSl R e sz Φ D v n ys zs):v.oneCell'=true:=by
  obtain⟨a,c,b,_⟩:=h.form
  rw[b];rfl
theorem OSl.gap {i:Int} {x:α} (h:OSl R e sz Φ D v xs) (d:idx xs i=some x):∃ b,GSl R e sz Φ b v xs.length (xs.take i.toNat) (xs.drop (i.toNat+1))∧SP b D:=by
  obtain⟨cells,Fs,g1,g2,rfl⟩:=h.ex
  have f:=th d
  have g:i.toNat < Fs.length:=by rw[g2.flen];exact f
  have c:SP ((Fs.take i.toNat).flatten++(Fs.drop (i.toNat+1)).flatten) Fs.flatten:=by
    have e:Fs.flatten=(Fs.take i.toNat).flatten++(Fs[i.toNat]++(Fs.drop (i.toNat+1)).flatten):=by
      conv=>lhs;rw[← List.take_append_drop i.toNat Fs,List.drop_eq_getElem_cons g]
      rw[List.flatten_append,q2]
    rw[e]
    exact SP.append (SP.refl _) (SP.right _ _)
  refine⟨_,⟨h.kn.sub fun k hk=>c.mem hk,by simp;omega,OV,cells,Fs.take i.toNat,Fs.drop (i.toNat+1),g1,by simp[g2.flen],by simp[g2.flen],rfl,fun k x hk=>?_,fun k x hk=>?_⟩,c⟩
  · rw[hN] at hk
    split at hk
    · rename_i j
      have a:(Fs.take i.toNat).getD k []=Fs.getD k []:=by
        simp only[hR];rw[hN,if_pos j]
      rw[a];exact g2.el k x hk
    · cases hk
  · rw[j1] at hk
    have m:=(gI.1 hk).1
    have a:(Fs.drop (i.toNat+1)).getD k []=Fs.getD (i.toNat+1+k) []:=by
      simp only[hR];rw[j1]
    have l:xs.length - (xs.drop (i.toNat+1)).length+k=i.toNat+1+k:=by rw[px];omega
    rw[a,l];exact g2.el _ x hk
theorem GSl.next (h:GSl R e sz Φ D v n ys (z :: zs)):∃ cs F c,cs.length=sz∧rg Φ (sb v) (so v+(n - (zs.length+1))*sz) cs∧sb v∈ob v∧R Φ F cs z∧Kw Φ F∧GSl R e sz Φ c v n ys zs∧SP (F++c) D:=by
  obtain⟨cells,Fs,Gs,g1,g2,g3,g4,g5,g6⟩:=h.ex
  have hle:=h.le
  have d:=h.pos
  simp only[gj] at hle g3
  obtain⟨G,a,rfl⟩:∃ G a,Gs=G :: a:=by cases Gs with
    | nil=>simp at g3
    | cons G a=>exact⟨G,a,rfl⟩
  have b:SP (G++(Fs.flatten++a.flatten)) D:=by
    rw[g4,q2]
    refine SP.perm ?_
    rw[← gi,← gi]
    exact List.Perm.append_right _ q0
  obtain⟨cap,l,g,i,j⟩:=g1.at_ d
  have m:(n - (zs.length+1))*sz+sz≤cells.length:=by rw[g1.1,← hE];exact hC sz OV
  have f:=g6 0 z rfl
  simp only[gj,jt] at f
  refine⟨(cells.drop ((n - (zs.length+1))*sz)).take sz,G,Fs.flatten++a.flatten,by rw[j4,px];omega,?_,by rw[i];simp,f,h.kn.sub fun k hk=>b.mem (gf.2 (.inl hk)),⟨h.kn.sub fun k hk=>b.mem (gf.2 (.inr hk)),OV,d,cells,Fs,a,g1,g2,by simpa using g3,rfl,g5,fun k x hk=>?_⟩,b⟩
  · rw[g]
    have:=j.part ((n - (zs.length+1))*sz) sz
    exact this
  · have:=g6 (k+1) x (by simpa using hk)
    rw[gj,show n - (zs.length+1)+(k+1)=n - zs.length+k by omega] at this
    simpa using this
theorem GSl.frame {X:List Nat} (c:cu R) (h:GSl R e sz Φ D v n ys zs) (a:FrH X Φ Φ') (d:Dj (ob v) X) (b:Dj D X):GSl R e sz Φ' D v n ys zs:=by
  obtain⟨cells,Fs,Gs,g1,g2,g3,g4,g5,g6⟩:=h.ex
  refine⟨a.kw b h.kn,h.le,h.pos,cells,Fs,Gs,g1.frame a d,g2,g3,g4,fun k x hk=>c _ _ _ _ _ _ a (fun m hm=>b m ?_) (g5 k x hk),fun k x hk=>c _ _ _ _ _ _ a (fun m hm=>b m ?_) (g6 k x hk)⟩
  · rw[g4];exact gf.2 (.inl (iD hm))
  · rw[g4];exact gf.2 (.inr (iD hm))
theorem oX {d:Operand} {ii:Int} (b:Sl P t e sz=true) (g:opv l x=some v) (i:opv l d=some (.int .i64 ii)) (h:GSl R e sz Φ D v n ys zs) (j:0≤ii) (h1:ii < (n:Int)) :
    OpQ P (.indexAddr t x d) l S (.pointer (some ⟨sb v,so v+ii.toNat*sz,none⟩)):=fun m a w o k f hw=>by
  obtain⟨cells,Fs,Gs,g1,_⟩:=h.ex
  obtain⟨cap,p,q,_,_⟩:=g1.at_ h.pos
  unfold Sl at b
  split at b
  · rename_i r hu
    simp only[Bool.and_eq_true,beq_iff_eq] at b
    obtain⟨rfl,b⟩:=b
    cases c:P.info? r with
    | none=>simp[c] at b
    | some s=>
      have u:s.size=sz:=by simpa[c] using b
      have y:opv l x=some (.slice (some ⟨sb v,so v,none⟩) n cap):=by rw[g,q,← p]
      unfold execOp;simp only[k,f.eval y,f.eval i]
      simp[Instr.indexAt,Sem.run_bind,run_underlying hu,asIntOf,j,h1,sizeOf,typeInfo,c,u,Addr.add_mid]
  · cases b
theorem KR (c:cu R) (s:Sz P t sz=true)
    (z:opv l x=some (.pointer (some ⟨sb v,so v+i*sz,none⟩))) (A:opv l y=some u) (B:u.cells.toList=vs) (hlen:vs.length=sz) (h1:One vs) (hp:Eng.pick js L=some ([ob v],Rr)) (h:GSl R e sz Φ D v n ys zs) (C:i=ys.length) (Y:ys.length+zs.length < n) (E:R Φ F vs x') (G:Kw Φ F)
    (H:Ap w0 O [ob v] Rr→Dj D [ob v].flatten) (I:Ap w0 O [ob v] Rr→Dj F [ob v].flatten) :
    OpU P (.store t x y) l (St w0 Φ O L) (fun Φ' d=>(Ap w0 O [ob v] Rr∧FrH [ob v].flatten Φ Φ')∧SP d (F++D)∧GSl R e sz Φ' d v n (ys++[x']) zs) (fun Φ' d=>St w0 Φ' O (ob v :: Rr)):=fun K a w op M N hw=>by
  subst C
  obtain⟨cells,Fs,Gs,g1,g2,g3,g4,g5,g6⟩:=h.ex
  have hle:ys.length*sz+sz≤n*sz:=by rw[← hE];exact hC sz OV
  obtain⟨w',Q,Z,S,T⟩:=yc (o:=ys.length*sz) s z A B hlen h1 hp g1 h.pos hle K a w op M N hw
  have f:[ob v].flatten=ob v:=by simp
  have b:FrH (ob v) Φ (lG Φ v v w'):=za hw.fro (nQ (fun k hk=>.inl hk))
  have g:Dj D (ob v):=by have:=H (hw.ap hp);rwa [f] at this
  have p:Dj F (ob v):=by have:=I (hw.ap hp);rwa [f] at this
  have U:ys.length*sz+sz≤cells.length:=by rw[g1.1];exact hle
  have sl:=fun k=>rM (cells:=cells) (vs:=vs) (i:=ys.length) (o:=0) (sz:=sz) U OV k
  simp only[jt] at sl
  have full:mf ((cells.drop (ys.length*sz)).take sz) 0 vs=vs:=by
    have V:((cells.drop (ys.length*sz)).take sz).length=sz:=by rw[j4,px];omega
    apply List.ext_getElem?
    intro m
    rw[lv (by rw[V];omega)]
    by_cases hm:m < vs.length
    · rw[if_pos ⟨OV,OV⟩];simp
    · rw[if_neg OV,qu OV,qu OV]
  have q:SP ((Fs++[F]).flatten++Gs.flatten) (F++D):=by
    rw[g4,List.flatten_append,q2,List.flatten_nil,List.append_nil]
    refine SP.perm ?_
    rw[← gi]
    exact List.Perm.append_right _ q0
  refine⟨_,(Fs++[F]).flatten++Gs.flatten,w',Q,⟨⟨hw.ap hp,by rw[f];exact b⟩,q,(b.kw (p.app g) (G.app h.kn)).sub (fun k hk=>q.mem hk),by simp;omega,h.pos,mf cells (ys.length*sz) vs,Fs++[F],Gs,nD.of_owns S (fun k hk=>by simp[lG,hk]),by simp[g2],g3,rfl,fun k x hk=>?_,fun k x hk=>?_⟩,T⟩
  · rw[sl k]
    by_cases r:k < ys.length
    · rw[if_neg OV]
      rw[nt r] at hk
      have j:(Fs++[F]).getD k []=Fs.getD k []:=by
        simp only[hR];rw[nt OV]
      rw[j]
      exact c (ob v) _ _ _ _ _ b (fun m hm=>g m (by rw[g4];exact gf.2 (.inl (iD hm)))) (g5 k x hk)
    · have W:k=ys.length:=by
        have:=(gI.1 hk).1
        simp at this;omega
      subst W
      rw[if_pos rfl,full]
      have X:x=x':=by simpa using hk.symm
      have j:(Fs++[F]).getD ys.length []=F:=by
        simp only[hR];rw[← g2];simp
      rw[j,X]
      exact c (ob v) _ _ _ _ _ b p E
  · have r:=(gI.1 hk).1
    rw[sl,if_neg OV]
    exact c (ob v) _ _ _ _ _ b (fun m hm=>g m (by rw[g4];exact gf.2 (.inr (iD hm)))) (g6 k x hk)
theorem I2 {lo:Operand} {ii:Int} (b:Sl P t e sz=true) (d:opv l x=some v) (f:opv l lo=some (.int .i64 ii)) (h:GSl R e sz Φ D v n ys zs) (g:0≤ii) (h1:ii≤(n:Int)):OpQ P (.slice t x (some lo) none none) l S (slc v ii.toNat n sz):=fun m A w o i a hw=>by
  obtain⟨p,c,j,q⟩:=h.form
  obtain⟨hu,k⟩:=ye b
  unfold execOp;simp only[i,a.eval d,Option.map_some,Option.map_none,a.eval f,j]
  rw[rR rfl]
  simp only[Sem.run_bind,run_sliceAt_slice w t _ _ _ _ hu,run_slice_l w t p _ c hu .i64 ii g h1,k]
  rfl
theorem J9 {a:Operand} {ii:Int} (d:Sl P t e sz=true) (f:opv l x=some v) (g:opv l a=some (.int .i64 ii)) (h:GSl R e sz Φ D v n ys zs) (i:0≤ii) (h1:ii≤(n:Int)):OpQ P (.slice t x none (some a) none) l S (slc v 0 ii.toNat sz):=fun m A w o j b hw=>by
  obtain⟨p,c,k,r⟩:=h.form
  obtain⟨hu,q⟩:=ye d
  unfold execOp;simp only[j,b.eval f,Option.map_some,Option.map_none,b.eval g,k]
  rw[rR rfl]
  simp only[Sem.run_bind,run_sliceAt_slice w t _ _ _ _ hu,run_slice_h w t p _ c hu .i64 ii i OV,q]
  rfl
theorem GSl.done (h:GSl R e sz Φ D v n ys ([]:List α)):OSl R e sz Φ D (slc v 0 ys.length sz) ys∧ob (slc v 0 ys.length sz)=ob v:=by
  obtain⟨cells,Fs,Gs,g1,g2,g3,rfl,g5,g6⟩:=h.ex
  have hle:=h.le
  simp only[List.length_nil,jt] at hle
  have c:Gs=[]:=List.length_eq_zero_iff.1 (by simpa using g3)
  subst c
  have m:ys.length*sz≤cells.length:=by rw[g1.1];exact hC sz hle
  refine⟨⟨h.kn,cells.take (ys.length*sz),Fs,?_,⟨by rw[j4];omega,g2,fun i x a=>?_⟩,OW⟩,?_⟩
  · refine⟨by simp;omega,?_⟩
    rcases g1.2 with ⟨rfl,d⟩ | ⟨b,cap,cur,rfl,f,o,g,j,k⟩
    · have:=h.pos;omega
    · refine .inr ⟨b,cap,cur,?_,f,OV,g,j,?_⟩
      · simp only[slc,Nat.sub_zero]
        split
        · rfl
        · simp[Addr.add_mid]
      · rw[← k,List.take_take,Nat.min_eq_left (hC sz hle)]
  · have l:=(gI.1 a).1
    have p:i*sz+sz≤ys.length*sz:=by rw[← hE];exact hC sz l
    have:((cells.take (ys.length*sz)).drop (i*sz)).take sz=(cells.drop (i*sz)).take sz:=by
      rw[List.drop_take,List.take_take,Nat.min_eq_left OV]
    rw[this];exact g5 i x a
  · rcases g1.2 with ⟨rfl,d⟩ | ⟨b,cap,cur,rfl,_⟩
    · rfl
    · simp only[slc]
      split
      · rfl
      · simp[ob,Value.ownBlock,Addr.add_mid]
theorem zW {zc:Array Value} (h:∀ x∈zc.toList,x.oneCell'=true) (hp:0 < zc.size) (m:Nat):∀ x∈(Builtin.zeroCells zc m).toList,x.oneCell'=true:=fun x a=>by
  unfold Builtin.zeroCells at a
  simp only[Array.toList_map,List.mem_map] at a
  obtain⟨k,_,rfl⟩:=a
  have hk:k % zc.size < zc.size:=Nat.mod_lt _ hp
  rw[getElem!_pos zc _ hk]
  exact h _ OW
theorem A7 {zc:Array Value} (m:Nat):(Builtin.zeroCells zc m).toList.length=m*zc.size:=by simp[Builtin.zeroCells]
theorem FU {zv:Value} (B:cu R) (C:Sl P t e sz=true) (d:Zr P e zv) (E:zv.cells.size=sz) (F:Nat.blt 0 sz=true) (G:zv.cells.toList.all (·.oneCell')=true) (f:opv l x=some (slc v i n sz)) (hp:Eng.pick js L=some ([ob v],Rr)) (h:GSl R e sz Φ D v n ys ([]:List α)) (H:i=ys.length) (ad:ys.length < n) (I:Ap w0 O [ob v] Rr→Dj D [ob v].flatten) :
    OpE P (.call ⟨.builtin .clear,#[x],#[t]⟩) l (St w0 Φ O L) (fun _ Φ' K=>(Ap w0 O [ob v] Rr∧FrH [ob v].flatten Φ Φ')∧GSl R e sz Φ' D v n ys ([]:List α)) (fun _ Φ' K=>St w0 Φ' O (ob v :: Rr)):=fun nn a w op M N hw=>by
  subst H
  have ae:0 < sz:=by simpa using F
  obtain⟨cells,Fs,Gs,g1,g2,g3,g4,g5,g6⟩:=h.ex
  have s:[ob v].flatten=ob v:=by simp
  have u:Dj D (ob v):=by have:=I (hw.ap hp);rwa [s] at this
  rcases g1.2 with ⟨_,h0⟩ | ⟨c,cap,cur,rfl,Q,y,S,g,T⟩
  · have:=h.pos;omega
  have af:n*sz≤cap*sz:=hC sz y
  have U:=hw.fro _ _ Q
  have hu:=vk C
  have V:∀ w,(zeroValue e).run P w = .ok zv w:=fun w=>by
    unfold Zr at d
    cases j:P.info? e with
    | none=>simp[j] at d
    | some W=>
      have X:W.zero=some zv:=by simpa[j] using d
      simp[zeroValue,typeInfo,Sem.run_bind,j,X]
  have hlen:=A7 (zc:=zv.cells) (n - ys.length)
  have ag:ys.length*sz+(n - ys.length)*sz=n*sz:=by rw[← Nat.add_mul];congr 1;omega
  rw[E] at hlen
  obtain⟨w',o,z,Y⟩:=ri (P:=P) (b:=c) (Builtin.zeroCells zv.cells (n - ys.length)).toList 0 (ys.length*sz) cur w U (by rw[hlen,g];omega) (zW (fun x f=>List.all_eq_true.1 G x f) OV _)
  have Z:ob (.slice (some ⟨c,0,none⟩) n cap)=[c]:=rfl
  have a1:Chg (ob (.slice (some ⟨c,0,none⟩) n cap)) w w':=by rw[Z];exact Chg.of_some Y (pq _ o)
  have p:cells.length=n*sz:=g1.1
  rw[jt] at z
  have A:w'.ownsRow 0 e sz (.slice (some ⟨c,0,none⟩) n cap) n (mf cells (ys.length*sz) (Builtin.zeroCells zv.cells (n - ys.length)).toList):=by
    refine⟨by rw[oB (by rw[hlen,p];omega),p],.inr ⟨c,cap,_,rfl,Nat.zero_le _,z,y,S,by rw[wj];exact g,?_⟩⟩
    rw[pE _ _ _ (by rw[hlen,g];omega)]
    subst T
    exact AI (by rw[hlen];omega) (by simp;omega)
  have a6:=hw.row hp a1 (fun k hk=>.inl hk) (nU A)
  have r:FrH (ob (.slice (some ⟨c,0,none⟩) n cap)) Φ (lG Φ (.slice (some ⟨c,0,none⟩) n cap) (.slice (some ⟨c,0,none⟩) n cap) w'):=za hw.fro (nQ (fun k hk=>.inl hk))
  obtain⟨m,hm⟩:∃ m,n - ys.length=m+1:=⟨n - ys.length - 1,OV⟩
  refine⟨.tuple #[],_,[],w',?_,⟨⟨hw.ap hp,by rw[s];exact r⟩,r.kw u h.kn,h.le,h.pos,mf cells (ys.length*sz) (Builtin.zeroCells zv.cells (n - ys.length)).toList,Fs,Gs,nD.of_owns A (fun k hk=>by simp[lG,hk]),g2,g3,g4,fun k x hk=>?_,fun k x hk=>by simp at hk⟩,a6⟩
  · have a7:opv l x=some (.slice (some ⟨c,ys.length*sz,none⟩) (m+1) (cap - ys.length)):=by
      rw[f]
      simp only[slc,hm]
      rw[if_neg OV]
      simp[Addr.add_mid]
    have a8:(Builtin.clear_ #[t] 0 #[.slice (some ⟨c,ys.length*sz,none⟩) (m+1) (cap - ys.length)]).run P w = .ok (.tuple #[]) w':=by
      unfold Builtin.clear_
      rw[hm] at o
      simp[Sem.run_bind,run_underlying hu,V,o]
    have aa:∀ ty,Builtin.clear_ #[t] ty #[.slice (some ⟨c,ys.length*sz,none⟩) (m+1) (cap - ys.length)]=Builtin.clear_ #[t] 0 #[.slice (some ⟨c,ys.length*sz,none⟩) (m+1) (cap - ys.length)]:=fun _=>rfl
    unfold execOp
    simp only[M,resolve]
    simp[invoke,builtin,Sem.run_bind,N.eval a7,aa,a8]
  · have ab:=(gI.1 hk).1
    have ah:k*sz+sz≤ys.length*sz:=by rw[← hE];exact hC sz ab
    have e:((mf cells (ys.length*sz) (Builtin.zeroCells zv.cells (n - ys.length)).toList).drop (k*sz)).take sz=(cells.drop (k*sz)).take sz:=by
      apply List.ext_getElem?
      intro q
      rw[hN,hN]
      split
      · rw[j1,j1,lv (by rw[hlen,p];omega),if_neg OV]
      · rfl
    rw[e]
    exact B (ob _) _ _ _ _ _ r (fun q hq=>u q (by rw[g4];exact gf.2 (.inl (iD hq)))) (g5 k x hk)
theorem leU {g:G} {k:List Item} {ops:Array Oper} {rest:List Oper} {o:Oper} {Q:Value→Hp→List Nat→Prop} {T:Value→Hp→List Nat→World→Prop} (d:OpE g.P o.op l S Q T) (b:dz o=true) (h:∀ v Φ' D,Q v Φ' D→WL g k ops rest l (T v Φ' D)):WL g k ops (o :: rest) l S:=fun a w c hw=>
  wpList_plain (o0 b).1 fun K e=>by
    obtain⟨v,Φ',D,w',f,i,j⟩:=d g.n a w o rfl c hw
    unfold Oper.wp
    rw[f,Oper.upon_value,(o0 b).2]
    exact e _ _ (h v Φ' D i _ _ (c.put_none v) j)
end Go.Proofs.YtedmfnmbjglmbaaGreat.Eng
