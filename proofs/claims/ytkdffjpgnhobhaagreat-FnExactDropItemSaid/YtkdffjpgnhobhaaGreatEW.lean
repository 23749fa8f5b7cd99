/-
  The engine, part W: a row out of which elements go (slices.DeleteFunc): those that stay stand in front, then a gap, then those that are not asked yet.
  Nothing here names a program.
-/
import Derived.Test.YtkdffjpgnhobhaaGreatEV
import Derived.Test.YtkdffjpgnhobhaaGreatEN
namespace Go.Proofs.YtkdffjpgnhobhaaGreat.Eng
set_option linter.unusedVariables false
set_option linter.unusedSimpArgs false
variable {l:Env} {Ψ0 H0:Hp} {B0:List Nat} {w0:ab Ψ0 H0 B0} {Φ Φ':Hp} {O:fv} {L:List (List Nat)} {w w':World} {S:World→Prop} {P:Program}
variable {α:Type} {R:Hp→List Nat→List Value→α→Prop} {t e sz i j n:Nat} {x y:Operand} {v u:Value} {vs cs c:List Value} {xs ys zs:List α} {D F:List Nat} {js:List Nat} {Rr:List (List Nat)} {a b z x':α}
def zC (p:α→Option Bool):List α→Option (List α)
  | []=>some []
  | x :: t=>(p x).bind fun b=>(zC p t).bind fun r=>some (if b then r else x :: r)
theorem SP.is_nil {A:List Nat} (h:SP A []):A=[]:=by
  obtain ⟨C,h⟩:=h
  have:=h.length_eq
  simp at this
  exact this.1
theorem Ha {x a b:Int} (h0:0≤x) (h:x < 4294967296) (e:x+1+a=b):IntKind.i64.wrap (x+1)+a=b:=by rw [HR h0 h]; exact e
theorem MT {x a:Int} (h0:0≤x) (h:x < 4294967296) (e:x+1=a):IntKind.i64.wrap (x+1)=a:=by rw [HR h0 h]; exact e
structure GSl (R:Hp→List Nat→List Value→α→Prop) (e sz:Nat) (Φ:Hp) (D:List Nat) (v:Value) (n:Nat) (ys zs:List α):Prop where
  kn:Kw Φ D
  le:ys.length+zs.length≤n
  pos:0 < n
  ex:∃ (cells:List Value) (Fs Gs:List (List Nat)),oM Φ e sz v n cells∧Fs.length=ys.length∧Gs.length=zs.length∧D=Fs.flatten++Gs.flatten ∧
    (∀ k x,ys[k]?=some x→R Φ (Fs.getD k []) ((cells.drop (k*sz)).take sz) x)∧∀ k x,zs[k]?=some x→R Φ (Gs.getD k []) ((cells.drop ((n - zs.length+k)*sz)).take sz) x
theorem GSl.form (h:GSl R e sz Φ D v n ys zs):∃ a c,v = .slice a n c∧n≤c:=by
  obtain ⟨cells,Fs,Gs,g1,_⟩:=h.ex
  exact g1.form
theorem GSl.one (h:GSl R e sz Φ D v n ys zs):v.oneCell'=true:=by
  obtain ⟨a,c,hv,_⟩:=h.form
  rw [hv]; rfl
theorem OSl.gap {i:Int} {x:α} (h:OSl R e sz Φ D v xs) (hi:idx xs i=some x):∃ D',GSl R e sz Φ D' v xs.length (xs.take i.toNat) (xs.drop (i.toNat+1))∧SP D' D:=by
  obtain ⟨cells,Fs,g1,g2,rfl⟩:=h.ex
  have hlt:=fV hi
  have hF:i.toNat < Fs.length:=by rw [g2.flen]; exact hlt
  have hsp:SP ((Fs.take i.toNat).flatten++(Fs.drop (i.toNat+1)).flatten) Fs.flatten:=by
    have e:Fs.flatten=(Fs.take i.toNat).flatten++(Fs[i.toNat]++(Fs.drop (i.toNat+1)).flatten):=by
      conv=>lhs; rw [← List.take_append_drop i.toNat Fs,List.drop_eq_getElem_cons hF]
      rw [List.flatten_append,List.flatten_cons]
    rw [e]
    exact SP.append (SP.refl _) (SP.right _ _)
  refine ⟨_,⟨h.kn.sub fun k hk=>hsp.mem hk,by simp; omega,by omega,cells,Fs.take i.toNat,Fs.drop (i.toNat+1),g1,by simp [g2.flen],by simp [g2.flen],rfl,fun k x hk=>?_,fun k x hk=>?_⟩,hsp⟩
  · rw [List.getElem?_take] at hk
    split at hk
    · rename_i hki
      have e1:(Fs.take i.toNat).getD k []=Fs.getD k []:=by
        simp only [List.getD_eq_getElem?_getD]; rw [List.getElem?_take,if_pos hki]
      rw [e1]; exact g2.el k x hk
    · cases hk
  · rw [List.getElem?_drop] at hk
    have hkl:=(List.getElem?_eq_some_iff.1 hk).1
    have e1:(Fs.drop (i.toNat+1)).getD k []=Fs.getD (i.toNat+1+k) []:=by
      simp only [List.getD_eq_getElem?_getD]; rw [List.getElem?_drop]
    have e2:xs.length - (xs.drop (i.toNat+1)).length+k=i.toNat+1+k:=by rw [List.length_drop]; omega
    rw [e1,e2]; exact g2.el _ x hk
theorem GSl.next (h:GSl R e sz Φ D v n ys (z :: zs)):∃ cs F D',cs.length=sz∧rg Φ (sb v) (so v+(n - (zs.length+1))*sz) cs∧sb v∈ob v∧R Φ F cs z∧Kw Φ F∧GSl R e sz Φ D' v n ys zs∧SP (F++D') D:=by
  obtain ⟨cells,Fs,Gs,g1,g2,g3,g4,g5,g6⟩:=h.ex
  have hle:=h.le
  have hn:=h.pos
  simp only [List.length_cons] at hle g3
  obtain ⟨G,Gs',rfl⟩:∃ G Gs',Gs=G :: Gs':=by cases Gs with
    | nil=>simp at g3
    | cons G Gs'=>exact ⟨G,Gs',rfl⟩
  have hsp:SP (G++(Fs.flatten++Gs'.flatten)) D:=by
    rw [g4,List.flatten_cons]
    refine SP.perm ?_
    rw [← List.append_assoc,← List.append_assoc]
    exact List.Perm.append_right _ List.perm_append_comm
  obtain ⟨cap,hv,h0,hb,hr⟩:=g1.at_ hn
  have hcl:(n - (zs.length+1))*sz+sz≤cells.length:=by rw [g1.1,← Nat.succ_mul]; exact Nat.mul_le_mul_right sz (by omega)
  have hR0:=g6 0 z rfl
  simp only [List.length_cons,Nat.add_zero] at hR0
  refine ⟨(cells.drop ((n - (zs.length+1))*sz)).take sz,G,Fs.flatten++Gs'.flatten,by rw [List.length_take,List.length_drop]; omega,?_,by rw [hb]; simp,hR0,h.kn.sub fun k hk=>hsp.mem (List.mem_append.2 (.inl hk)),⟨h.kn.sub fun k hk=>hsp.mem (List.mem_append.2 (.inr hk)),by omega,hn,cells,Fs,Gs',g1,g2,by simpa using g3,rfl,g5,fun k x hk=>?_⟩,hsp⟩
  · rw [h0]
    have:=hr.part ((n - (zs.length+1))*sz) sz
    exact this
  · have:=g6 (k+1) x (by simpa using hk)
    rw [List.length_cons,show n - (zs.length+1)+(k+1)=n - zs.length+k by omega] at this
    simpa using this
theorem GSl.frame {X:List Nat} (hR:bG R) (h:GSl R e sz Φ D v n ys zs) (hf:FrH X Φ Φ') (ho:Dj (ob v) X) (hd:Dj D X):GSl R e sz Φ' D v n ys zs:=by
  obtain ⟨cells,Fs,Gs,g1,g2,g3,g4,g5,g6⟩:=h.ex
  refine ⟨hf.kw hd h.kn,h.le,h.pos,cells,Fs,Gs,g1.frame hf ho,g2,g3,g4,fun k x hk=>hR _ _ _ _ _ _ hf (fun m hm=>hd m ?_) (g5 k x hk),fun k x hk=>hR _ _ _ _ _ _ hf (fun m hm=>hd m ?_) (g6 k x hk)⟩
  · rw [g4]; exact List.mem_append.2 (.inl (jH hm))
  · rw [g4]; exact List.mem_append.2 (.inr (jH hm))
theorem oV {ix:Operand} {ii:Int} (ht:Sl P t e sz=true) (hx:opv l x=some v) (hix:opv l ix=some (.int .i64 ii)) (h:GSl R e sz Φ D v n ys zs) (h0:0≤ii) (h1:ii < (n:Int)) :
    OpQ P (.indexAddr t x ix) l S (.pointer (some ⟨sb v,so v+ii.toNat*sz,none⟩)):=fun m a w o ho hf hw=>by
  obtain ⟨cells,Fs,Gs,g1,_⟩:=h.ex
  obtain ⟨cap,hv,hso,_,_⟩:=g1.at_ h.pos
  unfold Sl at ht
  split at ht
  · rename_i e' hu
    simp only [Bool.and_eq_true,beq_iff_eq] at ht
    obtain ⟨rfl,ht⟩:=ht
    cases hti:P.info? e' with
    | none=>simp [hti] at ht
    | some ti=>
      have hsz:ti.size=sz:=by simpa [hti] using ht
      have hxv:opv l x=some (.slice (some ⟨sb v,so v,none⟩) n cap):=by rw [hx,hso,← hv]
      unfold execOp; simp only [ho,hf.eval hxv,hf.eval hix]
      simp [Instr.indexAt,Sem.run_bind,run_underlying hu,asIntOf,h0,h1,sizeOf,typeInfo,hti,hsz,Addr.add_mid]
  · cases ht
theorem K6 (hR:bG R) (hz:Sz P t sz=true)
    (hx:opv l x=some (.pointer (some ⟨sb v,so v+i*sz,none⟩))) (hy:opv l y=some u) (hvs:u.cells.toList=vs) (hlen:vs.length=sz) (h1:One vs) (hp:Eng.pick js L=some ([ob v],Rr)) (h:GSl R e sz Φ D v n ys zs) (hi:i=ys.length) (hg:ys.length+zs.length < n) (hx':R Φ F vs x') (hkF:Kw Φ F)
    (hd:Ap w0 O [ob v] Rr→Dj D [ob v].flatten) (hdF:Ap w0 O [ob v] Rr→Dj F [ob v].flatten) :
    OpU P (.store t x y) l (St w0 Φ O L) (fun Φ' D'=>(Ap w0 O [ob v] Rr∧FrH [ob v].flatten Φ Φ')∧SP D' (F++D)∧GSl R e sz Φ' D' v n (ys++[x']) zs) (fun Φ' D'=>St w0 Φ' O (ob v :: Rr)):=fun nn a w op hop hf hw=>by
  subst hi
  obtain ⟨cells,Fs,Gs,g1,g2,g3,g4,g5,g6⟩:=h.ex
  have hle:ys.length*sz+sz≤n*sz:=by rw [← Nat.succ_mul]; exact Nat.mul_le_mul_right sz (by omega)
  obtain ⟨w',h2,hch,hrow,hst⟩:=Dp (o:=ys.length*sz) hz hx hy hvs hlen h1 hp g1 h.pos hle nn a w op hop hf hw
  have h1':[ob v].flatten=ob v:=by simp
  have hfr:FrH (ob v) Φ (mQ Φ v v w'):=C8 hw.fro (pE (fun k hk=>.inl hk))
  have hd':Dj D (ob v):=by have:=hd (hw.ap hp); rwa [h1'] at this
  have hdF':Dj F (ob v):=by have:=hdF (hw.ap hp); rwa [h1'] at this
  have hcl:ys.length*sz+sz≤cells.length:=by rw [g1.1]; exact hle
  have sl:=fun k=>wl (cells:=cells) (vs:=vs) (i:=ys.length) (o:=0) (sz:=sz) hcl (by omega) k
  simp only [Nat.add_zero] at sl
  have full:n5 ((cells.drop (ys.length*sz)).take sz) 0 vs=vs:=by
    have hl3:((cells.drop (ys.length*sz)).take sz).length=sz:=by rw [List.length_take,List.length_drop]; omega
    apply List.ext_getElem?
    intro m
    rw [lZ (by rw [hl3]; omega)]
    by_cases hm:m < vs.length
    · rw [if_pos ⟨by omega,by omega⟩]; simp
    · rw [if_neg (by omega),List.getElem?_eq_none (by omega),List.getElem?_eq_none (by omega)]
  have hsp:SP ((Fs++[F]).flatten++Gs.flatten) (F++D):=by
    rw [g4,List.flatten_append,List.flatten_cons,List.flatten_nil,List.append_nil]
    refine SP.perm ?_
    rw [← List.append_assoc]
    exact List.Perm.append_right _ List.perm_append_comm
  refine ⟨_,(Fs++[F]).flatten++Gs.flatten,w',h2,⟨⟨hw.ap hp,by rw [h1']; exact hfr⟩,hsp,(hfr.kw (hdF'.app hd') (hkF.app h.kn)).sub (fun k hk=>hsp.mem hk),by simp; omega,h.pos,n5 cells (ys.length*sz) vs,Fs++[F],Gs,oM.of_owns hrow (fun k hk=>by simp [mQ,hk]),by simp [g2],g3,rfl,fun k x hk=>?_,fun k x hk=>?_⟩,hst⟩
  · rw [sl k]
    by_cases hkl:k < ys.length
    · rw [if_neg (by omega)]
      rw [List.getElem?_append_left hkl] at hk
      have e1:(Fs++[F]).getD k []=Fs.getD k []:=by
        simp only [List.getD_eq_getElem?_getD]; rw [List.getElem?_append_left (by omega)]
      rw [e1]
      exact hR (ob v) _ _ _ _ _ hfr (fun m hm=>hd' m (by rw [g4]; exact List.mem_append.2 (.inl (jH hm)))) (g5 k x hk)
    · have hkk:k=ys.length:=by
        have:=(List.getElem?_eq_some_iff.1 hk).1
        simp at this; omega
      subst hkk
      rw [if_pos rfl,full]
      have e2:x=x':=by simpa using hk.symm
      have e1:(Fs++[F]).getD ys.length []=F:=by
        simp only [List.getD_eq_getElem?_getD]; rw [← g2]; simp
      rw [e1,e2]
      exact hR (ob v) _ _ _ _ _ hfr hdF' hx'
  · have hkl:=(List.getElem?_eq_some_iff.1 hk).1
    rw [sl,if_neg (by omega)]
    exact hR (ob v) _ _ _ _ _ hfr (fun m hm=>hd' m (by rw [g4]; exact List.mem_append.2 (.inr (jH hm)))) (g6 k x hk)
theorem HX {lo:Operand} {ii:Int} (ht:Sl P t e sz=true) (hx:opv l x=some v) (hlo:opv l lo=some (.int .i64 ii)) (h:GSl R e sz Φ D v n ys zs) (h0:0≤ii) (h1:ii≤(n:Int)):OpQ P (.slice t x (some lo) none none) l S (slc v ii.toNat n sz):=fun m A w o ho hf hw=>by
  obtain ⟨p,c,hv,hc⟩:=h.form
  obtain ⟨hu,hz⟩:=CX ht
  unfold execOp; simp only [ho,hf.eval hx,Option.map_some,Option.map_none,hf.eval hlo,hv]
  rw [tD rfl]
  simp only [Sem.run_bind,run_sliceAt_slice w t _ _ _ _ hu,run_slice_l w t p _ c hu .i64 ii h0 h1,hz]
  rfl
theorem Hw {hi:Operand} {ii:Int} (ht:Sl P t e sz=true) (hx:opv l x=some v) (hhi:opv l hi=some (.int .i64 ii)) (h:GSl R e sz Φ D v n ys zs) (h0:0≤ii) (h1:ii≤(n:Int)):OpQ P (.slice t x none (some hi) none) l S (slc v 0 ii.toNat sz):=fun m A w o ho hf hw=>by
  obtain ⟨p,c,hv,hc⟩:=h.form
  obtain ⟨hu,hz⟩:=CX ht
  unfold execOp; simp only [ho,hf.eval hx,Option.map_some,Option.map_none,hf.eval hhi,hv]
  rw [tD rfl]
  simp only [Sem.run_bind,run_sliceAt_slice w t _ _ _ _ hu,run_slice_h w t p _ c hu .i64 ii h0 (by omega),hz]
  rfl
theorem GSl.done (h:GSl R e sz Φ D v n ys ([]:List α)):OSl R e sz Φ D (slc v 0 ys.length sz) ys∧ob (slc v 0 ys.length sz)=ob v:=by
  obtain ⟨cells,Fs,Gs,g1,g2,g3,rfl,g5,g6⟩:=h.ex
  have hle:=h.le
  simp only [List.length_nil,Nat.add_zero] at hle
  have hG:Gs=[]:=List.length_eq_zero_iff.1 (by simpa using g3)
  subst hG
  have hble:ys.length*sz≤cells.length:=by rw [g1.1]; exact Nat.mul_le_mul_right sz hle
  refine ⟨⟨h.kn,cells.take (ys.length*sz),Fs,?_,⟨by rw [List.length_take]; omega,g2,fun i x hi=>?_⟩,by simp⟩,?_⟩
  · refine ⟨by simp; omega,?_⟩
    rcases g1.2 with ⟨rfl,hn⟩ | ⟨gb,cap,cur,rfl,k1,k2,k3,k4,k5⟩
    · have:=h.pos; omega
    · refine .inr ⟨gb,cap,cur,?_,k1,by omega,k3,k4,?_⟩
      · simp only [slc,Nat.sub_zero]
        split
        · rfl
        · simp [Addr.add_mid]
      · rw [← k5,List.take_take,Nat.min_eq_left (Nat.mul_le_mul_right sz hle)]
  · have hlt:=(List.getElem?_eq_some_iff.1 hi).1
    have hle2:i*sz+sz≤ys.length*sz:=by rw [← Nat.succ_mul]; exact Nat.mul_le_mul_right sz hlt
    have:((cells.take (ys.length*sz)).drop (i*sz)).take sz=(cells.drop (i*sz)).take sz:=by
      rw [List.drop_take,List.take_take,Nat.min_eq_left (by omega)]
    rw [this]; exact g5 i x hi
  · rcases g1.2 with ⟨rfl,hn⟩ | ⟨gb,cap,cur,rfl,_⟩
    · rfl
    · simp only [slc]
      split
      · rfl
      · simp [ob,Value.ownBlock,Addr.add_mid]
theorem Al {zc:Array Value} (h:∀ x∈zc.toList,x.oneCell'=true) (hp:0 < zc.size) (m:Nat):∀ x∈(Builtin.zeroCells zc m).toList,x.oneCell'=true:=fun x hx=>by
  unfold Builtin.zeroCells at hx
  simp only [Array.toList_map,List.mem_map] at hx
  obtain ⟨k,_,rfl⟩:=hx
  have hk:k % zc.size < zc.size:=Nat.mod_lt _ hp
  rw [getElem!_pos zc _ hk]
  exact h _ (by simp)
theorem Bw {zc:Array Value} (m:Nat):(Builtin.zeroCells zc m).toList.length=m*zc.size:=by simp [Builtin.zeroCells]
theorem Gz {zv:Value} (hR:bG R) (ht:Sl P t e sz=true) (hz:Zr P e zv) (hzs:zv.cells.size=sz) (hs0:Nat.blt 0 sz=true) (h1z:zv.cells.toList.all (·.oneCell')=true) (hx:opv l x=some (slc v i n sz)) (hp:Eng.pick js L=some ([ob v],Rr)) (h:GSl R e sz Φ D v n ys ([]:List α)) (hi:i=ys.length) (hlt:ys.length < n) (hd:Ap w0 O [ob v] Rr→Dj D [ob v].flatten) :
    OpE P (.call ⟨.builtin .clear,#[x],#[t]⟩) l (St w0 Φ O L) (fun _ Φ' D'=>(Ap w0 O [ob v] Rr∧FrH [ob v].flatten Φ Φ')∧GSl R e sz Φ' D v n ys ([]:List α)) (fun _ Φ' D'=>St w0 Φ' O (ob v :: Rr)):=fun nn a w op hop hf hw=>by
  subst hi
  have hs0':0 < sz:=by simpa using hs0
  obtain ⟨cells,Fs,Gs,g1,g2,g3,g4,g5,g6⟩:=h.ex
  have h1':[ob v].flatten=ob v:=by simp
  have hd':Dj D (ob v):=by have:=hd (hw.ap hp); rwa [h1'] at this
  rcases g1.2 with ⟨_,h0⟩ | ⟨gb,cap,cur,rfl,hg2,hn,hcm,hcs,htake⟩
  · have:=h.pos; omega
  have hcap:n*sz≤cap*sz:=Nat.mul_le_mul_right sz hn
  have hg2w:=hw.fro _ _ hg2
  have hu:=va ht
  have hzv:∀ w,(zeroValue e).run P w = .ok zv w:=fun w=>by
    unfold Zr at hz
    cases hti:P.info? e with
    | none=>simp [hti] at hz
    | some ti=>
      have h3:ti.zero=some zv:=by simpa [hti] using hz
      simp [zeroValue,typeInfo,Sem.run_bind,hti,h3]
  have hlen:=Bw (zc:=zv.cells) (n - ys.length)
  have hsum:ys.length*sz+(n - ys.length)*sz=n*sz:=by rw [← Nat.add_mul]; congr 1; omega
  rw [hzs] at hlen
  obtain ⟨w',r2,r3,r4⟩:=rJ (P:=P) (b:=gb) (Builtin.zeroCells zv.cells (n - ys.length)).toList 0 (ys.length*sz) cur w hg2w (by rw [hlen,hcs]; omega) (Al (fun x hx=>List.all_eq_true.1 h1z x hx) (by omega) _)
  have hob:ob (.slice (some ⟨gb,0,none⟩) n cap)=[gb]:=rfl
  have hch:Chg (ob (.slice (some ⟨gb,0,none⟩) n cap)) w w':=by rw [hob]; exact Chg.of_some r4 (pm _ r2)
  have hcl:cells.length=n*sz:=g1.1
  rw [Nat.add_zero] at r3
  have hrow:w'.ownsRow 0 e sz (.slice (some ⟨gb,0,none⟩) n cap) n (n5 cells (ys.length*sz) (Builtin.zeroCells zv.cells (n - ys.length)).toList):=by
    refine ⟨by rw [rz (by rw [hlen,hcl]; omega),hcl],.inr ⟨gb,cap,_,rfl,Nat.zero_le _,r3,hn,hcm,by rw [vn]; exact hcs,?_⟩⟩
    rw [qZ _ _ _ (by rw [hlen,hcs]; omega)]
    subst htake
    exact Cm (by rw [hlen]; omega) (by simp; omega)
  have hst:=hw.row hp hch (fun k hk=>.inl hk) (rf hrow)
  have hfr:FrH (ob (.slice (some ⟨gb,0,none⟩) n cap)) Φ (mQ Φ (.slice (some ⟨gb,0,none⟩) n cap) (.slice (some ⟨gb,0,none⟩) n cap) w'):=C8 hw.fro (pE (fun k hk=>.inl hk))
  obtain ⟨m,hm⟩:∃ m,n - ys.length=m+1:=⟨n - ys.length - 1,by omega⟩
  refine ⟨.tuple #[],_,[],w',?_,⟨⟨hw.ap hp,by rw [h1']; exact hfr⟩,hfr.kw hd' h.kn,h.le,h.pos,n5 cells (ys.length*sz) (Builtin.zeroCells zv.cells (n - ys.length)).toList,Fs,Gs,oM.of_owns hrow (fun k hk=>by simp [mQ,hk]),g2,g3,g4,fun k x hk=>?_,fun k x hk=>by simp at hk⟩,hst⟩
  · have hxv:opv l x=some (.slice (some ⟨gb,ys.length*sz,none⟩) (m+1) (cap - ys.length)):=by
      rw [hx]
      simp only [slc,hm]
      rw [if_neg (by omega)]
      simp [Addr.add_mid]
    have hcr:(Builtin.clear_ #[t] 0 #[.slice (some ⟨gb,ys.length*sz,none⟩) (m+1) (cap - ys.length)]).run P w = .ok (.tuple #[]) w':=by
      unfold Builtin.clear_
      rw [hm] at r2
      simp [Sem.run_bind,run_underlying hu,hzv,r2]
    have hty:∀ ty,Builtin.clear_ #[t] ty #[.slice (some ⟨gb,ys.length*sz,none⟩) (m+1) (cap - ys.length)]=Builtin.clear_ #[t] 0 #[.slice (some ⟨gb,ys.length*sz,none⟩) (m+1) (cap - ys.length)]:=fun _=>rfl
    unfold execOp
    simp only [hop,resolve]
    simp [invoke,builtin,Sem.run_bind,hf.eval hxv,hty,hcr]
  · have hkl:=(List.getElem?_eq_some_iff.1 hk).1
    have hle2:k*sz+sz≤ys.length*sz:=by rw [← Nat.succ_mul]; exact Nat.mul_le_mul_right sz hkl
    have e:((n5 cells (ys.length*sz) (Builtin.zeroCells zv.cells (n - ys.length)).toList).drop (k*sz)).take sz=(cells.drop (k*sz)).take sz:=by
      apply List.ext_getElem?
      intro q
      rw [List.getElem?_take,List.getElem?_take]
      split
      · rw [List.getElem?_drop,List.getElem?_drop,lZ (by rw [hlen,hcl]; omega),if_neg (by omega)]
      · rfl
    rw [e]
    exact hR (ob _) _ _ _ _ _ hfr (fun q hq=>hd' q (by rw [g4]; exact List.mem_append.2 (.inl (jH hq)))) (g5 k x hk)
theorem leU {g:G} {k:List Item} {ops:Array Oper} {rest:List Oper} {o:Oper} {Q:Value→Hp→List Nat→Prop} {T:Value→Hp→List Nat→World→Prop} (hop:OpE g.P o.op l S Q T) (hd:dz o=true) (h:∀ v Φ' D,Q v Φ' D→WL g k ops rest l (T v Φ' D)):WL g k ops (o :: rest) l S:=fun a w hf hw=>
  wpList_plain (nM hd).1 fun K hK=>by
    obtain ⟨v,Φ',D,w',hr,hq,ht⟩:=hop g.n a w o rfl hf hw
    unfold Oper.wp
    rw [hr,Oper.upon_value,(nM hd).2]
    exact hK _ _ (h v Φ' D hq _ _ (hf.put_none v) ht)
end Go.Proofs.YtkdffjpgnhobhaaGreat.Eng
