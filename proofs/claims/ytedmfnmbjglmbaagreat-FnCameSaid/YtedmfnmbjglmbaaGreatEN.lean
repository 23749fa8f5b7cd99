/-
  The engine, part N: a row whose elements are handed on one by one, from the first on.
  Nothing here names a program.
-/
import Derived.Test.YtedmfnmbjglmbaaGreatEK
namespace Go.Proofs.YtedmfnmbjglmbaaGreat.Eng
set_option linter.unusedVariables false
set_option linter.unusedSimpArgs false
structure TSl {α:Type} (R:Hp→List Nat→List Value→α→Prop) (sz:Nat) (Φ:Hp) (D:List Nat) (v:Value) (xs:List α) (p:Int):Prop where
  addr:xs≠[]→(∃ c,v = .slice (some ⟨sb v,so v,none⟩) xs.length c)∧sb v∈ob v
  len:xs.length≤4294967296
  kn:Kw Φ D
  el:∃ Fs:List (List Nat),Fs.length=xs.length∧D=(Fs.drop p.toNat).flatten∧∀ (j:Nat) (x:α),p.toNat≤j→xs[j]?=some x→∃ cs,cs.length=sz∧rg Φ (sb v) (so v+j*sz) cs∧R Φ (Fs.getD j []) cs x
variable {α:Type} {R:Hp→List Nat→List Value→α→Prop} {e sz:Nat} {Φ Φ':Hp} {D X:List Nat} {v:Value} {xs:List α}
def C2 (xs:List α):Option Unit:=if xs.length≤4294967296 then some () else none
theorem HA {u:Unit} (h:C2 xs=some u):xs.length≤4294967296:=by
  unfold C2 at h;split at h
  · assumption
  · cases h
theorem OSl.tail (h:OSl R e sz Φ D v xs) (f:xs.length≤4294967296):TSl R sz Φ D v xs 0:=by
  have n:=h.rsl
  obtain⟨cells,Fs,h1,a,g⟩:=h.ex
  refine⟨fun i=>?_,f,h.kn,Fs,a.flen,by simpa using g,fun j x _ c=>?_⟩
  · obtain⟨cap,d,b,k,_⟩:=h1.at_ (List.length_pos_iff.2 i)
    exact⟨⟨cap,by rw[b];exact d⟩,by rw[k];simp⟩
  · have l:=(gx.1 c).1
    obtain⟨cap,d,b,_,m⟩:=h1.at_ NR
    have hle:j*sz+sz≤cells.length:=by rw[a.len,← Nat.succ_mul];exact Nat.mul_le_mul_right sz l
    refine⟨(cells.drop (j*sz)).take sz,by simp;omega,?_,a.el j x c⟩
    rw[b];simpa using m.part (j*sz) sz
theorem TSl.frame (e:cB R) {p:Int} (h:TSl R sz Φ D v xs p) (a:FrH X Φ Φ') (f:Dj (ob v) X) (c:Dj D X):TSl R sz Φ' D v xs p:=by
  obtain⟨Fs,h1,d,g⟩:=h.el
  refine⟨h.addr,h.len,a.kw c h.kn,Fs,h1,d,fun j x hp b=>?_⟩
  obtain⟨cs,g1,g2,g3⟩:=g j x hp b
  have l:xs≠[]:=by rintro rfl;simp at b
  refine⟨cs,g1,g2.frame a (f _ (h.addr l).2),e _ _ _ _ _ _ a (fun k hk=>c k ?_) g3⟩
  rw[d]
  have m:=(gx.1 b).1
  rw[hS,gj NR,Option.getD_some] at hk
  refine List.mem_flatten.2 ⟨_,List.mem_of_getElem? (i:=j - p.toNat) ?_,hk⟩
  rw[List.getElem?_drop,show p.toNat+(j - p.toNat)=j by omega,gj NR]
theorem TSl.fr [LS R] {p:Int} (h:TSl R sz Φ D v xs p) (a:FrH X Φ Φ') (b:Dj (ob v) X) (c:Dj D X):TSl R sz Φ' D v xs p:=h.frame LS.l a b c
theorem TSl.f0 [LS R] {p:Int} (h:TSl R sz Φ D v xs p) (a:FrH [] Φ Φ'):TSl R sz Φ' D v xs p:=h.frame LS.l a (Dj.empty _) (Dj.empty _)
theorem Mp {i:Int} (c:0≤i) (h:i < 4294967296):IntKind.i64.wrap (i+1)=i+1:=by
  have:IntKind.i64.wrap (i+1)=(i+1+9223372036854775808) % 18446744073709551616 - 9223372036854775808:=by
    simp only[IntKind.wrap,IntKind.bits,IntKind.signed]
    have a:(2:Int) ^ 64=18446744073709551616:=by decide
    have b:(2:Int) ^ (64 - 1)=9223372036854775808:=by decide
    simp only[a,b,Bool.true_and,decide_eq_true_eq]
    split <;> omega
  omega
theorem TSl.step {i:Int} {x:α} (h:TSl R sz Φ D v xs i) (hk:dv R) (a:idx xs i=some x):∃ cs F b,cs.length=sz∧rg Φ (sb v) (so v+i.toNat*sz) cs∧sb v∈ob v∧R Φ F cs x∧D=F++b∧TSl R sz Φ b v xs (IntKind.i64.wrap (i+1)):=by
  obtain⟨e,h1,c⟩:=a8 a
  obtain⟨Fs,g1,g2,g3⟩:=h.el
  have o:=ux a
  obtain⟨cs,f,g,l⟩:=g3 i.toNat x (Nat.le_refl _) c
  have hw:=Mp e (by have:=h.len;omega)
  have d:D=Fs.getD i.toNat []++(Fs.drop (i.toNat+1)).flatten:=by
    rw[g2,List.drop_eq_getElem_cons NR,List.flatten_cons,hS,gj NR,Option.getD_some]
  have m:xs≠[]:=by rintro rfl;simp at c
  refine⟨cs,_,_,f,g,(h.addr m).2,l,d,h.addr,h.len,h.kn.sub fun k hk=>?_,Fs,g1,?_,fun j y hp n=>g3 j y ?_ n⟩
  · rw[d];exact gb.2 (.inr hk)
  · rw[hw,show (i+1).toNat=i.toNat+1 by omega]
  · rw[hw] at hp;omega
theorem vF {P:Program} {l:Env} {S:World→Prop} {t e:TypeId} {x f:Operand} {i:Int} {y:α}
    (b:Sl P t e sz=true) (h:opv l x=some v) (j:opv l f=some (.int .i64 i)) (k:TSl R sz Φ D v xs i) (m:idx xs i=some y) :
    OpQ P (.indexAddr t x f) l S (.pointer (some ⟨sb v,so v+i.toNat*sz,none⟩)):=fun n a w o p g hw=>by
  obtain⟨q,h1,r⟩:=a8 m
  obtain⟨⟨c,s⟩,_⟩:=k.addr (by rintro rfl;simp at r)
  unfold Sl at b
  split at b
  · rename_i u hu
    simp only[Bool.and_eq_true,beq_iff_eq] at b
    obtain⟨rfl,b⟩:=b
    cases d:P.info? u with
    | none=>simp[d] at b
    | some z=>
      have A:z.size=sz:=by simpa[d] using b
      have B:opv l x=some (.slice (some ⟨sb v,so v,none⟩) xs.length c):=by rw[h,← s]
      unfold execOp;simp only[p,g.eval B,g.eval j]
      simp[Instr.indexAt,Sem.run_bind,run_underlying hu,asIntOf,q,h1,sizeOf,typeInfo,d,A,Addr.add_mid]
  · cases b
theorem SP.sub {A B:List Nat} (h:SP A B):∀ k∈A,k∈B:=fun k hk=>h.mem hk
theorem SP.inl {A B C:List Nat} (h:SP (A++B) C):∀ k∈A,k∈C:=fun k hk=>h.mem (gb.2 (.inl hk))
theorem SP.inr {A B C:List Nat} (h:SP (A++B) C):∀ k∈B,k∈C:=fun k hk=>h.mem (gb.2 (.inr hk))
theorem SP.out {A B C:List Nat} (h:SP (A++B) C):SP A C:=(SP.left A B).trans h
theorem SP.next {A B C F D:List Nat} (h:SP (A++B) C) (a:B=F++D):SP ((A++F)++D) C:=by subst a;rw[List.append_assoc];exact h
theorem SP.skip {A B C F D:List Nat} (h:SP (A++B) C) (a:B=F++D):SP (A++D) C:=by
  subst a;exact (SP.append (SP.refl A) (SP.right F D)).trans h
theorem az.four {P:Program} {l:Env} {S:World→Prop} {c d e f:ResultVar} {v1 v2 v3 v4:Value} (h1:xe P c l S v1) (g:xe P d l S v2) (h:xe P e l S v3) (i:xe P f l S v4):az P #[c,d,e,f] l S (.tuple #[v1,v2,v3,v4]):=fun fn n a w p b hw=>by
  cases c <;> cases d <;> cases e <;> cases f <;>
  (first | obtain⟨z,q,r⟩:=h1 | skip) <;> (first | obtain⟨a2,s,t⟩:=g | skip) <;> (first | obtain⟨a3,u,v⟩:=h | skip) <;> (first | obtain⟨a4,x,y⟩:=i | skip) <;>
  (first | have j:=b.at_ _ _ q | have j:=b.at_ _ _ h1) <;> (first | have k:=b.at_ _ _ s | have k:=b.at_ _ _ g) <;> (first | have m:=b.at_ _ _ u | have m:=b.at_ _ _ h) <;> (first | have o:=b.at_ _ _ x | have o:=b.at_ _ _ i) <;>
  (first | have f1:=r w hw | have f1:=hw) <;> (first | have f2:=t w hw | have f2:=hw) <;> (first | have f3:=v w hw | have f3:=hw) <;> (first | have f4:=y w hw | have f4:=hw) <;>
  simp[results,p,asAddr,j,k,m,o,f1,f2,f3,f4]
end Go.Proofs.YtedmfnmbjglmbaaGreat.Eng
