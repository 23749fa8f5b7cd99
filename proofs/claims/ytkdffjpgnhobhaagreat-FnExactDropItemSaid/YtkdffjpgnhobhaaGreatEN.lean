/-
  The engine, part N: a row whose elements are handed on one by one, from the first on.
  Nothing here names a program.
-/
import Derived.Test.YtkdffjpgnhobhaaGreatEK
namespace Go.Proofs.YtkdffjpgnhobhaaGreat.Eng
set_option linter.unusedVariables false
set_option linter.unusedSimpArgs false
structure TSl {α:Type} (R:Hp→List Nat→List Value→α→Prop) (sz:Nat) (Φ:Hp) (D:List Nat) (v:Value) (xs:List α) (p:Int):Prop where
  addr:xs≠[]→(∃ c,v = .slice (some ⟨sb v,so v,none⟩) xs.length c)∧sb v∈ob v
  len:xs.length≤4294967296
  kn:Kw Φ D
  el:∃ Fs:List (List Nat),Fs.length=xs.length∧D=(Fs.drop p.toNat).flatten∧∀ (j:Nat) (x:α),p.toNat≤j→xs[j]?=some x→∃ cs,cs.length=sz∧rg Φ (sb v) (so v+j*sz) cs∧R Φ (Fs.getD j []) cs x
variable {α:Type} {R:Hp→List Nat→List Value→α→Prop} {e sz:Nat} {Φ Φ':Hp} {D X:List Nat} {v:Value} {xs:List α}
def tW (xs:List α):Option Unit:=if xs.length≤4294967296 then some () else none
theorem zz {u:Unit} (h:tW xs=some u):xs.length≤4294967296:=by
  unfold tW at h; split at h
  · assumption
  · cases h
theorem OSl.tail (h:OSl R e sz Φ D v xs) (hl:xs.length≤4294967296):TSl R sz Φ D v xs 0:=by
  have hr:=h.rsl
  obtain ⟨cells,Fs,h1,h2,h3⟩:=h.ex
  refine ⟨fun hne=>?_,hl,h.kn,Fs,h2.flen,by simpa using h3,fun j x _ hj=>?_⟩
  · obtain ⟨cap,hv,h0,hb,_⟩:=h1.at_ (List.length_pos_iff.2 hne)
    exact ⟨⟨cap,by rw [h0]; exact hv⟩,by rw [hb]; simp⟩
  · have hlt:=(List.getElem?_eq_some_iff.1 hj).1
    obtain ⟨cap,hv,h0,_,hg⟩:=h1.at_ (by omega)
    have hle:j*sz+sz≤cells.length:=by rw [h2.len,← Nat.succ_mul]; exact Nat.mul_le_mul_right sz hlt
    refine ⟨(cells.drop (j*sz)).take sz,by simp; omega,?_,h2.el j x hj⟩
    rw [h0]; simpa using hg.part (j*sz) sz
theorem TSl.frame (hR:bG R) {p:Int} (h:TSl R sz Φ D v xs p) (hf:FrH X Φ Φ') (ho:Dj (ob v) X) (hd:Dj D X):TSl R sz Φ' D v xs p:=by
  obtain ⟨Fs,h1,h2,h3⟩:=h.el
  refine ⟨h.addr,h.len,hf.kw hd h.kn,Fs,h1,h2,fun j x hp hj=>?_⟩
  obtain ⟨cs,g1,g2,g3⟩:=h3 j x hp hj
  have hne:xs≠[]:=by rintro rfl; simp at hj
  refine ⟨cs,g1,g2.frame hf (ho _ (h.addr hne).2),hR _ _ _ _ _ _ hf (fun k hk=>hd k ?_) g3⟩
  rw [h2]
  have hlt:=(List.getElem?_eq_some_iff.1 hj).1
  rw [List.getD_eq_getElem?_getD,List.getElem?_eq_getElem (by omega),Option.getD_some] at hk
  refine List.mem_flatten.2 ⟨_,List.mem_of_getElem? (i:=j - p.toNat) ?_,hk⟩
  rw [List.getElem?_drop,show p.toNat+(j - p.toNat)=j by omega,List.getElem?_eq_getElem (by omega)]
theorem TSl.fr [LS R] {p:Int} (h:TSl R sz Φ D v xs p) (hf:FrH X Φ Φ') (ho:Dj (ob v) X) (hd:Dj D X):TSl R sz Φ' D v xs p:=h.frame LS.l hf ho hd
theorem TSl.f0 [LS R] {p:Int} (h:TSl R sz Φ D v xs p) (hf:FrH [] Φ Φ'):TSl R sz Φ' D v xs p:=h.frame LS.l hf (Dj.empty _) (Dj.empty _)
theorem HR {i:Int} (h0:0≤i) (h:i < 4294967296):IntKind.i64.wrap (i+1)=i+1:=by
  have:IntKind.i64.wrap (i+1)=(i+1+9223372036854775808) % 18446744073709551616 - 9223372036854775808:=by
    simp only [IntKind.wrap,IntKind.bits,IntKind.signed]
    have e1:(2:Int) ^ 64=18446744073709551616:=by decide
    have e2:(2:Int) ^ (64 - 1)=9223372036854775808:=by decide
    simp only [e1,e2,Bool.true_and,decide_eq_true_eq]
    split <;> omega
  omega
theorem TSl.step {i:Int} {x:α} (h:TSl R sz Φ D v xs i) (hk:d6 R) (hi:idx xs i=some x):∃ cs F D',cs.length=sz∧rg Φ (sb v) (so v+i.toNat*sz) cs∧sb v∈ob v∧R Φ F cs x∧D=F++D'∧TSl R sz Φ D' v xs (IntKind.i64.wrap (i+1)):=by
  obtain ⟨h0,h1,h2⟩:=a7 hi
  obtain ⟨Fs,g1,g2,g3⟩:=h.el
  have hlt:=fV hi
  obtain ⟨cs,q1,q2,q3⟩:=g3 i.toNat x (Nat.le_refl _) h2
  have hw:=HR h0 (by have:=h.len; omega)
  have hd:D=Fs.getD i.toNat []++(Fs.drop (i.toNat+1)).flatten:=by
    rw [g2,List.drop_eq_getElem_cons (by omega),List.flatten_cons,List.getD_eq_getElem?_getD,List.getElem?_eq_getElem (by omega),Option.getD_some]
  have hne:xs≠[]:=by rintro rfl; simp at h2
  refine ⟨cs,_,_,q1,q2,(h.addr hne).2,q3,hd,h.addr,h.len,h.kn.sub fun k hk=>?_,Fs,g1,?_,fun j y hp hj=>g3 j y ?_ hj⟩
  · rw [hd]; exact List.mem_append.2 (.inr hk)
  · rw [hw,show (i+1).toNat=i.toNat+1 by omega]
  · rw [hw] at hp; omega
theorem vt {P:Program} {l:Env} {S:World→Prop} {t e:TypeId} {x ix:Operand} {i:Int} {y:α}
    (ht:Sl P t e sz=true) (hx:opv l x=some v) (hix:opv l ix=some (.int .i64 i)) (hv:TSl R sz Φ D v xs i) (hi:idx xs i=some y) :
    OpQ P (.indexAddr t x ix) l S (.pointer (some ⟨sb v,so v+i.toNat*sz,none⟩)):=fun n a w o ho hf hw=>by
  obtain ⟨h0,h1,h2⟩:=a7 hi
  obtain ⟨⟨c,hc⟩,_⟩:=hv.addr (by rintro rfl; simp at h2)
  unfold Sl at ht
  split at ht
  · rename_i e' hu
    simp only [Bool.and_eq_true,beq_iff_eq] at ht
    obtain ⟨rfl,ht⟩:=ht
    cases hti:P.info? e' with
    | none=>simp [hti] at ht
    | some ti=>
      have hsz:ti.size=sz:=by simpa [hti] using ht
      have hxv:opv l x=some (.slice (some ⟨sb v,so v,none⟩) xs.length c):=by rw [hx,← hc]
      unfold execOp; simp only [ho,hf.eval hxv,hf.eval hix]
      simp [Instr.indexAt,Sem.run_bind,run_underlying hu,asIntOf,h0,h1,sizeOf,typeInfo,hti,hsz,Addr.add_mid]
  · cases ht
theorem SP.sub {A B:List Nat} (h:SP A B):∀ k∈A,k∈B:=fun k hk=>h.mem hk
theorem SP.inl {A B C:List Nat} (h:SP (A++B) C):∀ k∈A,k∈C:=fun k hk=>h.mem (List.mem_append.2 (.inl hk))
theorem SP.inr {A B C:List Nat} (h:SP (A++B) C):∀ k∈B,k∈C:=fun k hk=>h.mem (List.mem_append.2 (.inr hk))
theorem SP.out {A B C:List Nat} (h:SP (A++B) C):SP A C:=(SP.left A B).trans h
theorem SP.next {A B C F D:List Nat} (h:SP (A++B) C) (hB:B=F++D):SP ((A++F)++D) C:=by subst hB; rw [List.append_assoc]; exact h
theorem SP.skip {A B C F D:List Nat} (h:SP (A++B) C) (hB:B=F++D):SP (A++D) C:=by
  subst hB; exact (SP.append (SP.refl A) (SP.right F D)).trans h
end Go.Proofs.YtkdffjpgnhobhaaGreat.Eng
