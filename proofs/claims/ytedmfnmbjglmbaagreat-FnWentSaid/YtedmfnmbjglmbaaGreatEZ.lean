/-
  The engine, part Z: one element is cut out of an own row: append(s[:i], s[i+1:]...).
  Nothing here names a program.
-/
import Derived.Test.YtedmfnmbjglmbaaGreatEW
namespace Go.Proofs.YtedmfnmbjglmbaaGreat.Eng
set_option linter.unusedVariables false
set_option linter.unusedSimpArgs false
variable {l:Env} {Ψ0 H0:Hp} {B0:List Nat} {w0:aA Ψ0 H0 B0} {Φ Φ':Hp} {O:gK} {L:List (List Nat)} {w w':World} {P:Program}
variable {α:Type} {R:Hp→List Nat→List Value→α→Prop} {t e sz by':Nat} {s x:Operand} {z v:Value} {xs ys zs us:List α} {D:List Nat} {js:List Nat} {Rr:List (List Nat)}
theorem RC.take_ {Fs:List (List Nat)} {cells:List Value} (h:RC R sz Φ Fs cells xs) {i:Nat} (a:i≤xs.length):RC R sz Φ (Fs.take i) (cells.take (i*sz)) (xs.take i):=by
  have hle:i*sz≤cells.length:=by rw[h.len];exact hC sz a
  refine⟨by rw[j4,j4,y1 hle,y1 a],by rw[j4,j4,h.flen],fun k y hk=>?_⟩
  rw[hN] at hk
  split at hk
  · rename_i b
    have c:(Fs.take i).getD k []=Fs.getD k []:=by
      simp only[hR];rw[hN,if_pos b]
    have d:k*sz+sz≤i*sz:=by rw[← Nat.succ_mul];exact hC sz b
    rw[c,List.drop_take,List.take_take,y1 OV]
    exact h.el k y hk
  · cases hk
theorem RC.drop_ {Fs:List (List Nat)} {cells:List Value} (h:RC R sz Φ Fs cells xs) (j:Nat):RC R sz Φ (Fs.drop j) (cells.drop (j*sz)) (xs.drop j):=by
  refine⟨by rw[px,px,h.len,Nat.sub_mul],by rw[px,px,h.flen],fun k y hk=>?_⟩
  rw[j1] at hk
  have a:(Fs.drop j).getD k []=Fs.getD (j+k) []:=by
    simp only[hR];rw[j1]
  rw[a,List.drop_drop,← Nat.add_mul]
  exact h.el (j+k) y hk
theorem L8 (n:Int):IntKind.i64.wrap n=(n+9223372036854775808) % 18446744073709551616 - 9223372036854775808:=by
  simp only[IntKind.wrap,IntKind.bits,IntKind.signed]
  have a:(2:Int) ^ 64=18446744073709551616:=by decide
  have b:(2:Int) ^ (64 - 1)=9223372036854775808:=by decide
  simp only[a,b,Bool.true_and,decide_eq_true_eq]
  split<;>omega
theorem LF (Fs:List (List Nat)) {i j:Nat} (h:i≤j):SP (Fs.take i++Fs.drop j).flatten Fs.flatten:=by
  have e:Fs.flatten=(Fs.take i).flatten++(((Fs.drop i).take (j - i)).flatten++(Fs.drop j).flatten):=by
    conv=>lhs;rw[← k0 i Fs,← k0 (j - i) (Fs.drop i)]
    rw[j2,j2,List.drop_drop,show i+(j - i)=j by omega]
  rw[j2,e]
  exact SP.append (SP.refl _) (SP.right _ _)
theorem ND {a:Int} (M:cu R) (N:gE R) (Q:Sl P t e sz=true) (he:Ei P e z sz by') (S:z.cells.size=sz) (T:Nat.blt 0 sz=true) (U:Nat.ble by' 32768=true)
    (q:opv l s=some (slc v (0:Int).toNat a.toNat sz)) (f:opv l x=some (slc v (IntKind.i64.wrap (a+1)).toNat (xs.length:Int).toNat sz)) (hp:Eng.pick js L=some ([ob v],Rr)) (h:OSl R e sz Φ D v xs)
    (h1:ssl xs 0 a=some ys) (V:ssl xs (IntKind.i64.wrap (a+1)) (xs.length:Int)=some zs) (W:Ap w0 O [ob v] Rr→Dj D [ob v].flatten) (X:app ys zs=some us) :
    OpE P (.call ⟨.builtin .append,#[s,x],#[t,t]⟩) l (St w0 Φ O L) (fun c Φ' g=>(Ap w0 O [ob v] Rr∧FrH [ob v].flatten Φ Φ')∧SP g D∧OSl R e sz Φ' g c us) (fun c Φ' g=>St w0 Φ' O (ob c :: Rr)):=fun n ac w o Y r hw=>by
  obtain⟨cells,Fs,g1,g2,rfl⟩:=h.ex
  obtain⟨-,a0,Z,rfl⟩:=rL h1
  obtain⟨b0,u,-,rfl⟩:=rL V
  obtain⟨d,rfl⟩:=CX X
  have A:0 < sz:=by simpa using T
  have B:[ob v].flatten=ob v:=by simp
  have a6:Dj Fs.flatten (ob v):=by have:=W (hw.ap hp);rwa [B] at this
  rcases g1.2 with ⟨rfl,hn⟩ | ⟨b,cap,cur,rfl,C,k2,j,k4,k5⟩
  · rw[hn] at Z u
    have:a=0:=by omega
    subst this
    have:=L8 (0+1)
    omega
  · have af:cap≤9223372036854775807:=by unfold maxLen at j;exact j
    have E:IntKind.i64.wrap (a+1)=a+1:=by have:=L8 (a+1);omega
    rw[E] at f b0 u ⊢
    rw[E] at d
    obtain⟨i,rfl⟩:∃ i:Nat,a=(i:Int):=⟨a.toNat,OV⟩
    have hi:i+1≤xs.length:=by omega
    have F:((i:Int)+1).toNat=i+1:=by omega
    have a7:=g2.len
    have ce:cells=cur.toList.take (xs.length*sz):=k5.symm
    have G:i*sz≤xs.length*sz:=hC sz OV
    have ag:(i+1)*sz≤xs.length*sz:=hC sz hi
    have e1:slc (.slice (some ⟨b,0,none⟩) xs.length cap) (0:Int).toNat (i:Int).toNat sz = .slice (some ⟨b,0,none⟩) i cap:=by
      simp only[slc,Int.toNat_zero,hQ,Nat.sub_zero]
      split
      · rfl
      · simp[Addr.add_mid]
    rw[e1] at q
    rw[F,hQ] at f
    simp only[F,hQ,Int.toNat_zero,List.drop_zero] at d ⊢
    rw[List.take_length] at d ⊢
    have r1:=g2.take_ (i:=i) OV
    have m:=g2.drop_ (i+1)
    have a8:nD Φ e sz (.slice (some ⟨b,0,none⟩) i cap) (xs.take i).length (cells.take (i*sz)):=by
      have hl:(xs.take i).length=i:=by simp;omega
      rw[hl]
      refine⟨by rw[j4,a7,y1 G],.inr ⟨b,cap,cur,rfl,C,OV,j,k4,?_⟩⟩
      rw[ce,List.take_take,y1 G]
    have aa:Src w (slc (.slice (some ⟨b,0,none⟩) xs.length cap) (i+1) xs.length sz) (xs.drop (i+1)).length sz (cells.drop ((i+1)*sz)):=by
      refine⟨m.len,.inr ⟨?_,cap - (i+1),?_,?_⟩⟩
      · exact if cap=i+1 then ⟨b,0,none⟩ else (⟨b,0,none⟩:Addr).add ((i+1)*sz)
      · simp only[slc,px]
        split<;>rfl
      · intro k y hk
        rw[j1] at hk
        have hg:=hw.fro _ _ C
        have ah:(i+1)*sz+k < cells.length:=(List.getElem?_eq_some_iff.1 hk).1
        have ab:cap≠i+1:=fun e=>by
          have:xs.length*sz≤(i+1)*sz:=hC sz OV
          omega
        rw[if_neg ab,Addr.add_mid,Addr.add_mid]
        rw[ce,hN] at hk
        split at hk
        · simp only[World.cell?,hg,Nat.zero_add];simpa using hk
        · cases hk
    have ad:=m.one N A
    obtain⟨c,w',q1,H,q3,q4⟩:=tB (P:=P) (ty:=0) Q he rfl S A ad (a8.owns hw.fro) aa (by simpa using U) d
    have ae:=r1.append m
    have p:=LF Fs (show i≤i+1 by omega)
    have hlen:(xs.take i++xs.drop (i+1)).length=(xs.take i).length+(xs.drop (i+1)).length:=by simp
    have ai:ob (.slice (some ⟨b,0,none⟩) i cap)=ob (.slice (some ⟨b,0,none⟩) xs.length cap):=rfl
    have I:Chg (ob (.slice (some ⟨b,0,none⟩) xs.length cap)) w w':=q3
    have K:∀ k∈ob c,k∈ob (.slice (some ⟨b,0,none⟩) xs.length cap)∨w.heap.size≤k:=q4
    obtain⟨f1,f2⟩:=wd M hw.fro I K (by rw[hlen];exact H) ae (h.kn.sub fun k hk=>p.mem hk) (Dj.sub a6 fun k hk=>p.mem hk)
    exact⟨c,_,_,w',IH Y (r.eval q) (r.eval f) (fun ty=>by rw[uI (ty':=0)];exact q1),⟨⟨hw.ap hp,by rw[B];exact f1⟩,p,f2⟩,hw.row hp I K (nU H)⟩
end Go.Proofs.YtedmfnmbjglmbaaGreat.Eng
