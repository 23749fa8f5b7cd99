/-
  The engine, part V: two elements of a row change places; what they own goes with them.
  Nothing here names a program.
-/
import Derived.Test.YtedmfnmbjglmbaaGreatEP
namespace Go.Proofs.YtedmfnmbjglmbaaGreat.Eng
set_option linter.unusedVariables false
set_option linter.unusedSimpArgs false
variable {l:Env} {Ψ0 H0:Hp} {B0:List Nat} {w0:av Ψ0 H0 B0} {Φ Φ':Hp} {O:fT} {L:List (List Nat)} {w w':World} {S:World→Prop} {P:Program}
variable {α:Type} {R:Hp→List Nat→List Value→α→Prop} {t n e sz i j:Nat} {x y:Operand} {v u:Value} {vs cs c:List Value} {xs:List α} {D F:List Nat} {js:List Nat} {Rr:List (List Nat)} {a b:α}
theorem C1 {k o:Nat} {p q:List Value} (h1:rg Φ k o p) (h2:rg Φ k o q) (hl:p.length=q.length):p=q:=by
  obtain ⟨c1,e1,z1,g1,f1⟩:=h1
  obtain ⟨c2,e2,z2,g2,f2⟩:=h2
  rw [g1] at g2
  cases g2
  refine List.ext_getElem hl fun m m1 m2=>?_
  have a1:=f1 m _ (List.getElem?_eq_getElem m1)
  have a2:=f2 m _ (List.getElem?_eq_getElem m2)
  rw [a1] at a2
  exact Option.some.inj a2
structure SwS (R:Hp→List Nat→List Value→α→Prop) (e sz:Nat) (Φ:Hp) (D:List Nat) (v:Value) (xs:List α) (i j:Nat) (c:List Value):Prop where
  kn:Kw Φ D
  li:i < xs.length
  lj:j < xs.length
  len:c.length=sz
  ex:∃ (cells:List Value) (Fs:List (List Nat)),oa Φ e sz v xs.length cells∧Fs.length=xs.length∧D=Fs.flatten ∧
    (∀ k x,k≠i→xs[k]?=some x→R Φ (Fs.getD k []) ((cells.drop (k*sz)).take sz) x)∧(∀ x,xs[i]?=some x→R Φ (Fs.getD i []) c x)∧∀ y,xs[j]?=some y→R Φ (Fs.getD j []) ((cells.drop (i*sz)).take sz) y
theorem SwS.form (h:SwS R e sz Φ D v xs i j c):∃ a c,v = .slice a xs.length c∧xs.length≤c:=by
  obtain ⟨cells,Fs,g1,_⟩:=h.ex
  exact g1.form
theorem Cz (hR:bQ R) (hz:Sz P t sz=true)
    (hx:opv l x=some (.pointer (some ⟨sb v,so v+i*sz,none⟩))) (hy:opv l y=some u) (hvs:u.cells.toList=vs) (hlen:vs.length=sz) (h1:One vs) (hp:Eng.pick js L=some ([ob v],Rr)) (h:OSl R e sz Φ D v xs) (hi:xs[i]?=some a) (hj:xs[j]?=some b)
    (gi:rg Φ (sb v) (so v+i*sz) c) (hc:c.length=sz) (gj:rg Φ (sb v) (so v+j*sz) vs) (hd:Ap w0 O [ob v] Rr→Dj D [ob v].flatten) :
    OpU P (.store t x y) l (St w0 Φ O L) (fun Φ' D'=>(Ap w0 O [ob v] Rr∧FrH [ob v].flatten Φ Φ')∧SwS R e sz Φ' D v xs i j c) (fun Φ' D'=>St w0 Φ' O (ob v :: Rr)):=fun nn a' w op hop hf hw=>by
  obtain ⟨cells,Fs,g1,g2,g3⟩:=h.ex
  have hil:=(List.getElem?_eq_some_iff.1 hi).1
  have hjl:=(List.getElem?_eq_some_iff.1 hj).1
  have hle:i*sz+sz≤xs.length*sz:=by rw [← Nat.succ_mul]; exact Nat.mul_le_mul_right sz hil
  have hle2:j*sz+sz≤xs.length*sz:=by rw [← Nat.succ_mul]; exact Nat.mul_le_mul_right sz hjl
  obtain ⟨w',h2,hch,hrow,hst⟩:=yZ (o:=i*sz) hz hx hy hvs hlen h1 hp g1 (by omega) (by omega) nn a' w op hop hf hw
  have h1':[ob v].flatten=ob v:=by simp
  have hfr:FrH (ob v) Φ (lv Φ v v w'):=A8 hw.fro (pE (fun k hk=>.inl hk))
  have hd':Dj D (ob v):=by have:=hd (hw.ap hp); rwa [h1'] at this
  have hcl:i*sz+sz≤cells.length:=by rw [g1.1]; exact hle
  have hcl2:j*sz+sz≤cells.length:=by rw [g1.1]; exact hle2
  obtain ⟨cap,hv,hso,_,hr⟩:=g1.at_ (by omega)
  have ci:(cells.drop (i*sz)).take sz=c:=by
    have:=hr.part (i*sz) sz
    rw [hso] at gi
    exact C1 this gi (by rw [List.length_take,List.length_drop]; omega)
  have cj:(cells.drop (j*sz)).take sz=vs:=by
    have:=hr.part (j*sz) sz
    rw [hso] at gj
    exact C1 this gj (by rw [List.length_take,List.length_drop]; omega)
  have lift:∀ k x cc,R Φ (Fs.getD k []) cc x→R (lv Φ v v w') (Fs.getD k []) cc x:=fun k x cc hh=>hR (ob v) _ _ _ _ _ hfr (fun m hm=>hd' m (by rw [g3]; exact kP hm)) hh
  have sl:=fun k=>rM (cells:=cells) (vs:=vs) (i:=i) (o:=0) (sz:=sz) hcl (by omega) k
  simp only [Nat.add_zero] at sl
  have full:mF ((cells.drop (i*sz)).take sz) 0 vs=vs:=by
    apply List.ext_getElem?
    intro m
    rw [kZ (by rw [ci,hc]; omega)]
    by_cases hm:m < vs.length
    · rw [if_pos ⟨by omega,by omega⟩]; simp
    · rw [if_neg (by omega),ci,List.getElem?_eq_none (by omega),List.getElem?_eq_none (by omega)]
  refine ⟨_,[],w',h2,⟨⟨hw.ap hp,by rw [h1']; exact hfr⟩,hfr.kw hd' h.kn,hil,hjl,hc,mF cells (i*sz) vs,Fs,oa.of_owns hrow (fun k hk=>by simp [lv,hk]),g2.flen,g3,fun k x hk hx=>?_,fun x hx=>?_,fun y hy=>?_⟩,hst⟩
  · rw [sl k,if_neg hk]; exact lift _ _ _ (g2.el k x hx)
  · have:=g2.el i x hx
    rw [ci] at this
    exact lift _ _ _ this
  · rw [sl i,if_pos rfl,full]
    have:=g2.el j y hy
    rw [cj] at this
    exact lift _ _ _ this
theorem ni {ix:Operand} {ii:Int} {zs:List α} {z:α} (ht:Sl P t e sz=true) (hx:opv l x=some v) (hix:opv l ix=some (.int .i64 ii)) (h:SwS R e sz Φ D v xs i j c) (hi:idx zs ii=some z) (hl:zs.length=xs.length) :
    OpQ P (.indexAddr t x ix) l S (.pointer (some ⟨sb v,so v+ii.toNat*sz,none⟩)):=fun n a w o ho hf hw=>by
  obtain ⟨h0,h1,h2⟩:=ab hi
  obtain ⟨cells,Fs,g1,_⟩:=h.ex
  obtain ⟨cap,hv,hso,_,_⟩:=g1.at_ (by have:=h.li; omega)
  unfold Sl at ht
  split at ht
  · rename_i e' hu
    simp only [Bool.and_eq_true,beq_iff_eq] at ht
    obtain ⟨rfl,ht⟩:=ht
    cases hti:P.info? e' with
    | none=>simp [hti] at ht
    | some ti=>
      have hsz:ti.size=sz:=by simpa [hti] using ht
      have hxv:opv l x=some (.slice (some ⟨sb v,so v,none⟩) xs.length cap):=by rw [hx,hso,← hv]
      rw [hl] at h1
      unfold execOp; simp only [ho,hf.eval hxv,hf.eval hix]
      simp [Instr.indexAt,Sem.run_bind,run_underlying hu,asIntOf,h0,h1,sizeOf,typeInfo,hti,hsz,Addr.add_mid]
  · cases ht
theorem zP (Fs:List (List Nat)) (hi:i < Fs.length) (hj:j < Fs.length):((Fs.set i (Fs.getD j [])).set j (Fs.getD i [])).flatten.Perm Fs.flatten:=by
  have h1:=jQ Fs i hi
  by_cases hij:i=j
  · subst hij
    have e:(Fs.set i (Fs.getD i [])).set i (Fs.getD i [])=Fs:=by
      rw [List.set_set]
      apply List.ext_getElem?
      intro m
      rw [List.getElem?_set]
      split
      · rename_i hm; subst hm
        first
          | rw [if_pos hi,List.getD_eq_getElem?_getD,List.getElem?_eq_getElem hi]; rfl
          | rw [List.getD_eq_getElem?_getD,List.getElem?_eq_getElem hi]; rfl
      · rfl
    rw [e]
  · have h2:=jQ (Fs.set i []) j (by simpa using hj)
    have gj:(Fs.set i []).getD j []=Fs.getD j []:=by
      simp only [List.getD_eq_getElem?_getD]; rw [List.getElem?_set_ne hij]
    rw [gj] at h2
    have h3:=jQ ((Fs.set i (Fs.getD j [])).set j (Fs.getD i [])) i (by simpa using hi)
    have h4:=jQ (((Fs.set i (Fs.getD j [])).set j (Fs.getD i [])).set i []) j (by simpa using hj)
    have e1:((Fs.set i (Fs.getD j [])).set j (Fs.getD i [])).getD i []=Fs.getD j []:=by
      simp only [List.getD_eq_getElem?_getD]
      rw [List.getElem?_set_ne (Ne.symm hij),List.getElem?_set_self hi]; rfl
    have e2:(((Fs.set i (Fs.getD j [])).set j (Fs.getD i [])).set i []).getD j []=Fs.getD i []:=by
      simp only [List.getD_eq_getElem?_getD]
      rw [List.getElem?_set_ne hij,List.getElem?_set_self (by simpa using hj)]; rfl
    have e3:(((Fs.set i (Fs.getD j [])).set j (Fs.getD i [])).set i []).set j []=(Fs.set i []).set j []:=by
      apply List.ext_getElem?
      intro m
      simp only [List.getElem?_set,List.length_set]
      by_cases m1:j=m
      · simp [m1]
      · by_cases m2:i=m
        · simp [m1,m2]
        · simp [m1,m2]
    rw [e1] at h3
    rw [e2,e3] at h4
    -- Fj ++ (Fi ++ rest) ~ Fi ++ (Fj ++ rest)
    refine h3.symm.trans ((List.Perm.append_left _ h4.symm).trans (List.Perm.trans ?_ ((List.Perm.append_left _ h2).trans h1)))
    rw [← List.append_assoc,← List.append_assoc]
    exact List.Perm.append_right _ List.perm_append_comm
theorem Cy (hR:bQ R) (hz:Sz P t sz=true)
    (hx:opv l x=some (.pointer (some ⟨sb v,so v+j*sz,none⟩))) (hy:opv l y=some u) (hvs:u.cells.toList=c) (h1:One c) (hp:Eng.pick js L=some ([ob v],Rr)) (h:SwS R e sz Φ D v xs i j c) (hi:xs[i]?=some a) (hj:xs[j]?=some b)
    (hd:Ap w0 O [ob v] Rr→Dj D [ob v].flatten) :
    OpU P (.store t x y) l (St w0 Φ O L) (fun Φ' D'=>(Ap w0 O [ob v] Rr∧FrH [ob v].flatten Φ Φ')∧SP D' D∧OSl R e sz Φ' D' v ((xs.set i b).set j a)) (fun Φ' D'=>St w0 Φ' O (ob v :: Rr)):=by
  obtain ⟨cells,Fs,g1,g2,g3,g4,g5,g6⟩:=h.ex
  have hil:=h.li
  have hjl:=h.lj
  have hle2:j*sz+sz≤xs.length*sz:=by rw [← Nat.succ_mul]; exact Nat.mul_le_mul_right sz hjl
  have hcl2:j*sz+sz≤cells.length:=by rw [g1.1]; exact hle2
  have hlc:=h.len
  have sl:=fun k=>rM (cells:=cells) (vs:=c) (i:=j) (o:=0) (sz:=sz) hcl2 (by omega) k
  simp only [Nat.add_zero] at sl
  have full:mF ((cells.drop (j*sz)).take sz) 0 c=c:=by
    apply List.ext_getElem?
    intro m
    have hl3:((cells.drop (j*sz)).take sz).length=sz:=by rw [List.length_take,List.length_drop]; omega
    rw [kZ (by rw [hl3]; omega)]
    by_cases hm:m < c.length
    · rw [if_pos ⟨by omega,by omega⟩]; simp
    · rw [if_neg (by omega),List.getElem?_eq_none (by omega),List.getElem?_eq_none (by omega)]
  have hpm:=zP (i:=i) (j:=j) Fs (by omega) (by omega)
  have hlen:((xs.set i b).set j a).length=xs.length:=by simp
  have hF:∀ k,((Fs.set i (Fs.getD j [])).set j (Fs.getD i [])).getD k []=if k=j then Fs.getD i [] else if k=i then Fs.getD j [] else Fs.getD k []:=fun k=>by
    simp only [List.getD_eq_getElem?_getD]
    by_cases k1:k=j
    · subst k1
      rw [if_pos rfl,List.getElem?_set_self (by simp; omega)]; rfl
    · rw [if_neg k1,List.getElem?_set_ne (Ne.symm k1)]
      by_cases k2:k=i
      · subst k2
        rw [if_pos rfl,List.getElem?_set_self (by omega)]; rfl
      · rw [if_neg k2,List.getElem?_set_ne (Ne.symm k2)]
  have hrc:RC R sz Φ ((Fs.set i (Fs.getD j [])).set j (Fs.getD i [])) (mF cells (j*sz) c) ((xs.set i b).set j a):=by
    refine ⟨by rw [oy (by omega),hlen]; exact g1.1,by simp; exact g2,fun k z hz=>?_⟩
    rw [hF k,sl k]
    by_cases k1:k=j
    · rw [if_pos k1,if_pos k1,full]
      have:z=a:=by rw [k1,List.getElem?_set_self (by simp; omega)] at hz; exact (Option.some.inj hz).symm
      rw [this]; exact g5 a hi
    · rw [if_neg k1,if_neg k1]
      rw [List.getElem?_set_ne (Ne.symm k1)] at hz
      by_cases k2:k=i
      · rw [if_pos k2,k2]
        have:z=b:=by rw [k2,List.getElem?_set_self hil] at hz; exact (Option.some.inj hz).symm
        rw [this]; exact g6 b hj
      · rw [if_neg k2]
        rw [List.getElem?_set_ne (Ne.symm k2)] at hz
        exact g4 k z k2 hz
  intro nn a' w op hop hf hw
  obtain ⟨Φ',D',w',q1,⟨q2,q3,q4⟩,q5⟩:=Bq (P:=P) hR hz hx hy hvs hlc h1 hp (by rw [hlen]; exact g1) (by rw [hlen]; omega) (by rw [hlen]; exact hle2) hrc (h.kn.sub fun k hk=>by rw [g3]; exact hpm.mem_iff.1 hk) (fun w hw=>(hd (hw.ap hp)).sub fun k hk=>by rw [g3]; exact hpm.mem_iff.1 hk) nn a' w op hop hf hw
  exact ⟨Φ',D',w',q1,⟨q2,by rw [q3,g3]; exact SP.perm hpm,q4⟩,q5⟩

section
variable {g:G} {k:List Item} {ops:Array Oper} {kp:Nat→Bool} {fuel:Nat} {done:List Nat} {Sw:World→Prop}
theorem Fh (ops:Array Oper) (done:List Nat) {i j:Nat} (h:i≠j):lst ops (i :: j :: done)=lst ops (j :: i :: done):=by
  rw [← eU,← eU,← eU,← eU]
  exact Array.setIfInBounds_comm _ _ (Ne.symm h)
theorem WM.swapd {i j di dj:Nat} {vi vj:Value} (h:WM g k ops S kp fuel (j :: i :: done) ((dj,vj) :: (di,vi) :: l) Sw) (hij:i≠j) (hd:di≠dj):WM g k ops S kp fuel (i :: j :: done) ((di,vi) :: (dj,vj) :: l) Sw:=fun a w hf hw=>by
  rw [Fh ops done hij]
  refine h a w (hf.mono fun m u hm=>?_) hw
  simp only [lk] at hm ⊢
  split at hm
  · rename_i e
    subst e
    rw [if_neg hd,if_pos rfl]; exact hm
  · rename_i e
    split at hm
    · rename_i e2; rw [if_pos e2]; exact hm
    · rename_i e2; rw [if_neg e2,if_neg e]; exact hm
theorem WM.qq2 {oi oj:Oper} {di dj:Nat} {vi vj:Value} (i j:Nat) (hi:ops[i]?=some oi) (hj:ops[j]?=some oj) (ai:OpQ g.P oi.op l Sw vi) (aj:OpQ g.P oj.op ((di,vi) :: l) Sw vj) (bj:OpQ g.P oj.op l Sw vj) (bi:OpQ g.P oi.op ((dj,vj) :: l) Sw vi)
    (hdi:dq oi g.n=some di) (hdj:dq oj g.n=some dj) (hS:∀ w,Sw w→S w) (hd:Nat.beq di dj=false) (hij:Nat.beq i j=false)
    (h0:Region.ready .any ops (lst ops done)=[i,j]) (h1:Region.ready .any ops (lst ops (i :: done))=[j]) (h2:Region.ready .any ops (lst ops (j :: done))=[i])
    (h:WM g k ops S kp fuel (j :: i :: done) ((dj,vj) :: (di,vi) :: l) Sw):WM g k ops S kp (fuel+2) done l Sw:=
  WM.two i j h0 (mv hi (fun _=>hS) ai hdi (WM.one j h1 (mv hj (fun _=>hS) aj hdj h)))
    (mv hj (fun _=>hS) bj hdj (WM.one i h2 (mv hi (fun _=>hS) bi hdi (h.swapd (Nat.ne_of_beq_eq_false hij) (Nat.ne_of_beq_eq_false hd)))))
end

end Go.Proofs.YtedmfnmbjglmbaaGreat.Eng
