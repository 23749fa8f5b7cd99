/-
  The engine, part V: two elements of a row change places; what they own goes with them.
  Nothing here names a program.
-/
import Derived.Test.YtedmfnmbjglmbaaGreatEP
namespace Go.Proofs.YtedmfnmbjglmbaaGreat.Eng
set_option linter.unusedVariables false
set_option linter.unusedSimpArgs false
variable {l:Env} {Ψ0 H0:Hp} {B0:List Nat} {w0:aD Ψ0 H0 B0} {Φ Φ':Hp} {O:gY} {L:List (List Nat)} {w w':World} {S:World→Prop} {P:Program}
variable {α:Type} {R:Hp→List Nat→List Value→α→Prop} {t n e sz i j:Nat} {x y:Operand} {v u:Value} {vs cs c:List Value} {xs:List α} {D F:List Nat} {js:List Nat} {Rr:List (List Nat)} {a b:α}
theorem EE {k o:Nat} {p q:List Value} (h1:rg Φ k o p) (a:rg Φ k o q) (b:p.length=q.length):p=q:=by
  obtain⟨c1,d,e,g1,f1⟩:=h1
  obtain⟨c2,f,z2,g2,f2⟩:=a
  rw[g1] at g2
  cases g2
  refine List.ext_getElem b fun m m1 m2=>?_
  have c:=f1 m _ (gj m1)
  have a2:=f2 m _ (gj m2)
  rw[c] at a2
  exact Option.some.inj a2
structure SwS (R:Hp→List Nat→List Value→α→Prop) (e sz:Nat) (Φ:Hp) (D:List Nat) (v:Value) (xs:List α) (i j:Nat) (c:List Value):Prop where
  kn:Kw Φ D
  li:i < xs.length
  lj:j < xs.length
  len:c.length=sz
  ex:∃ (cells:List Value) (Fs:List (List Nat)),oZ Φ e sz v xs.length cells∧Fs.length=xs.length∧D=Fs.flatten ∧
    (∀ k x,k≠i→xs[k]?=some x→R Φ (Fs.getD k []) ((cells.drop (k*sz)).take sz) x)∧(∀ x,xs[i]?=some x→R Φ (Fs.getD i []) c x)∧∀ y,xs[j]?=some y→R Φ (Fs.getD j []) ((cells.drop (i*sz)).take sz) y
theorem SwS.form (h:SwS R e sz Φ D v xs i j c):∃ a c,v = .slice a xs.length c∧xs.length≤c:=by
  obtain⟨cells,Fs,g1,_⟩:=h.ex
  exact g1.form
theorem En (F:cB R) (G:Sz P t sz=true)
    (d:opv l x=some (.pointer (some ⟨sb v,so v+i*sz,none⟩))) (f:opv l y=some u) (H:u.cells.toList=vs) (hlen:vs.length=sz) (h1:One vs) (hp:Eng.pick js L=some ([ob v],Rr)) (h:OSl R e sz Φ D v xs) (I:xs[i]?=some a) (K:xs[j]?=some b)
    (p:rg Φ (sb v) (so v+i*sz) c) (q:c.length=sz) (r:rg Φ (sb v) (so v+j*sz) vs) (M:Ap w0 O [ob v] Rr→Dj D [ob v].flatten) :
    OpU P (.store t x y) l (St w0 Φ O L) (fun Φ' N=>(Ap w0 O [ob v] Rr∧FrH [ob v].flatten Φ Φ')∧SwS R e sz Φ' D v xs i j c) (fun Φ' N=>St w0 Φ' O (ob v :: Rr)):=fun Q S w op T U hw=>by
  obtain⟨cells,Fs,g1,g2,g3⟩:=h.ex
  have s:=(gx.1 I).1
  have z:=(gx.1 K).1
  have hle:i*sz+sz≤xs.length*sz:=by rw[← hB];exact hL sz s
  have V:j*sz+sz≤xs.length*sz:=by rw[← hB];exact hL sz z
  obtain⟨w',W,a1,X,Y⟩:=B3 (o:=i*sz) G d f H hlen h1 hp g1 NR NR Q S w op T U hw
  have A:[ob v].flatten=ob v:=by simp
  have g:FrH (ob v) Φ (mM Φ v v w'):=Bx hw.fro (qV (fun k hk=>.inl hk))
  have B:Dj D (ob v):=by have:=M (hw.ap hp);rwa [A] at this
  have Z:i*sz+sz≤cells.length:=by rw[g1.1];exact hle
  have a6:j*sz+sz≤cells.length:=by rw[g1.1];exact V
  obtain⟨cap,hv,C,_,E⟩:=g1.at_ NR
  have ci:(cells.drop (i*sz)).take sz=c:=by
    have:=E.part (i*sz) sz
    rw[C] at p
    exact EE this p (by rw[my,K2];omega)
  have cj:(cells.drop (j*sz)).take sz=vs:=by
    have:=E.part (j*sz) sz
    rw[C] at r
    exact EE this r (by rw[my,K2];omega)
  have lift:∀ k x n,R Φ (Fs.getD k []) n x→R (mM Φ v v w') (Fs.getD k []) n x:=fun k x n hh=>F (ob v) _ _ _ _ _ g (fun m hm=>B m (by rw[g3];exact mJ hm)) hh
  have sl:=fun k=>tz (cells:=cells) (vs:=vs) (i:=i) (o:=0) (sz:=sz) Z NR k
  simp only[Nat.add_zero] at sl
  have full:o5 ((cells.drop (i*sz)).take sz) 0 vs=vs:=by
    apply p7
    intro m
    rw[mw (by rw[ci,q];omega)]
    by_cases hm:m < vs.length
    · rw[if_pos ⟨NR,NR⟩];simp
    · rw[if_neg NR,ci,sX NR,sX NR]
  refine⟨_,[],w',W,⟨⟨hw.ap hp,by rw[A];exact g⟩,g.kw B h.kn,s,z,q,o5 cells (i*sz) vs,Fs,oZ.of_owns X (fun k hk=>by simp[mM,hk]),g2.flen,g3,fun k x hk d=>?_,fun x d=>?_,fun y f=>?_⟩,Y⟩
  · rw[sl k,if_neg hk];exact lift _ _ _ (g2.el k x d)
  · have:=g2.el i x d
    rw[ci] at this
    exact lift _ _ _ this
  · rw[sl i,if_pos rfl,full]
    have:=g2.el j y f
    rw[cj] at this
    exact lift _ _ _ this
theorem oz {f:Operand} {ii:Int} {g:List α} {z:α} (b:Sl P t e sz=true) (m:opv l x=some v) (p:opv l f=some (.int .i64 ii)) (h:SwS R e sz Φ D v xs i j c) (q:idx g ii=some z) (r:g.length=xs.length) :
    OpQ P (.indexAddr t x f) l S (.pointer (some ⟨sb v,so v+ii.toNat*sz,none⟩)):=fun n a w o s k hw=>by
  obtain⟨u,h1,G⟩:=a8 q
  obtain⟨cells,Fs,g1,_⟩:=h.ex
  obtain⟨cap,y,A,_,_⟩:=g1.at_ (by have:=h.li;omega)
  unfold Sl at b
  split at b
  · rename_i B hu
    simp only[Bool.and_eq_true,beq_iff_eq] at b
    obtain⟨rfl,b⟩:=b
    cases d:P.info? B with
    | none=>simp[d] at b
    | some C=>
      have E:C.size=sz:=by simpa[d] using b
      have F:opv l x=some (.slice (some ⟨sb v,so v,none⟩) xs.length cap):=by rw[m,A,← y]
      rw[r] at h1
      unfold execOp;simp only[s,k.eval F,k.eval p]
      simp[Instr.indexAt,Sem.run_bind,run_underlying hu,asIntOf,u,h1,sizeOf,typeInfo,d,E,Addr.add_mid]
  · cases b
theorem AK (Fs:List (List Nat)) (a:i < Fs.length) (c:j < Fs.length):((Fs.set i (Fs.getD j [])).set j (Fs.getD i [])).flatten.Perm Fs.flatten:=by
  have h1:=jI Fs i a
  by_cases b:i=j
  · subst b
    have e:(Fs.set i (Fs.getD i [])).set i (Fs.getD i [])=Fs:=by
      rw[List.set_set]
      apply p7
      intro m
      rw[List.getElem?_set]
      split
      · rename_i hm;subst hm
        first
          | rw[if_pos a,hS,gj a];rfl
          | rw[hS,gj a];rfl
      · rfl
    rw[e]
  · have d:=jI (Fs.set i []) j (by simpa using c)
    have h:(Fs.set i []).getD j []=Fs.getD j []:=by
      simp only[hS];rw[hZ b]
    rw[h] at d
    have f:=jI ((Fs.set i (Fs.getD j [])).set j (Fs.getD i [])) i (by simpa using a)
    have g:=jI (((Fs.set i (Fs.getD j [])).set j (Fs.getD i [])).set i []) j (by simpa using c)
    have k:((Fs.set i (Fs.getD j [])).set j (Fs.getD i [])).getD i []=Fs.getD j []:=by
      simp only[hS]
      rw[hZ (Ne.symm b),j3 a];rfl
    have l:(((Fs.set i (Fs.getD j [])).set j (Fs.getD i [])).set i []).getD j []=Fs.getD i []:=by
      simp only[hS]
      rw[hZ b,j3 (by simpa using c)];rfl
    have n:(((Fs.set i (Fs.getD j [])).set j (Fs.getD i [])).set i []).set j []=(Fs.set i []).set j []:=by
      apply p7
      intro m
      simp only[List.getElem?_set,List.length_set]
      by_cases m1:j=m
      · simp[m1]
      · by_cases m2:i=m
        · simp[m1,m2]
        · simp[m1,m2]
    rw[k] at f
    rw[l,n] at g
    -- Fj ++ (Fi ++ rest) ~ Fi ++ (Fj ++ rest)
    refine f.symm.trans ((List.Perm.append_left _ g.symm).trans (List.Perm.trans ?_ ((List.Perm.append_left _ d).trans h1)))
    rw[← List.append_assoc,← List.append_assoc]
    exact List.Perm.append_right _ List.perm_append_comm
theorem DS (r:cB R) (g:Sz P t sz=true)
    (s:opv l x=some (.pointer (some ⟨sb v,so v+j*sz,none⟩))) (A:opv l y=some u) (B:u.cells.toList=c) (h1:One c) (hp:Eng.pick js L=some ([ob v],Rr)) (h:SwS R e sz Φ D v xs i j c) (C:xs[i]?=some a) (E:xs[j]?=some b)
    (F:Ap w0 O [ob v] Rr→Dj D [ob v].flatten) :
    OpU P (.store t x y) l (St w0 Φ O L) (fun Φ' n=>(Ap w0 O [ob v] Rr∧FrH [ob v].flatten Φ Φ')∧SP n D∧OSl R e sz Φ' n v ((xs.set i b).set j a)) (fun Φ' n=>St w0 Φ' O (ob v :: Rr)):=by
  obtain⟨cells,Fs,g1,g2,g3,g4,g5,g6⟩:=h.ex
  have G:=h.li
  have H:=h.lj
  have q:j*sz+sz≤xs.length*sz:=by rw[← hB];exact hL sz H
  have I:j*sz+sz≤cells.length:=by rw[g1.1];exact q
  have K:=h.len
  have sl:=fun k=>tz (cells:=cells) (vs:=c) (i:=j) (o:=0) (sz:=sz) I NR k
  simp only[Nat.add_zero] at sl
  have full:o5 ((cells.drop (j*sz)).take sz) 0 c=c:=by
    apply p7
    intro m
    have M:((cells.drop (j*sz)).take sz).length=sz:=by rw[my,K2];omega
    rw[mw (by rw[M];omega)]
    by_cases hm:m < c.length
    · rw[if_pos ⟨NR,NR⟩];simp
    · rw[if_neg NR,sX NR,sX NR]
  have p:=AK (i:=i) (j:=j) Fs NR NR
  have hlen:((xs.set i b).set j a).length=xs.length:=by simp
  have N:∀ k,((Fs.set i (Fs.getD j [])).set j (Fs.getD i [])).getD k []=if k=j then Fs.getD i [] else if k=i then Fs.getD j [] else Fs.getD k []:=fun k=>by
    simp only[hS]
    by_cases d:k=j
    · subst d
      rw[if_pos rfl,j3 (by simp;omega)];rfl
    · rw[if_neg d,hZ (Ne.symm d)]
      by_cases f:k=i
      · subst f
        rw[if_pos rfl,j3 NR];rfl
      · rw[if_neg f,hZ (Ne.symm f)]
  have Q:RC R sz Φ ((Fs.set i (Fs.getD j [])).set j (Fs.getD i [])) (o5 cells (j*sz) c) ((xs.set i b).set j a):=by
    refine⟨by rw[qg NR,hlen];exact g1.1,by simp;exact g2,fun k z g=>?_⟩
    rw[N k,sl k]
    by_cases d:k=j
    · rw[if_pos d,if_pos d,full]
      have:z=a:=by rw[d,j3 (by simp;omega)] at g;exact (Option.some.inj g).symm
      rw[this];exact g5 a C
    · rw[if_neg d,if_neg d]
      rw[hZ (Ne.symm d)] at g
      by_cases f:k=i
      · rw[if_pos f,f]
        have:z=b:=by rw[f,j3 G] at g;exact (Option.some.inj g).symm
        rw[this];exact g6 b E
      · rw[if_neg f]
        rw[hZ (Ne.symm f)] at g
        exact g4 k z f g
  intro S T w op U V hw
  obtain⟨Φ',n,w',q1,⟨W,X,Y⟩,q5⟩:=HZ (P:=P) r g s A B K h1 hp (by rw[hlen];exact g1) (by rw[hlen];omega) (by rw[hlen];exact q) Q (h.kn.sub fun k hk=>by rw[g3];exact p.mem_iff.1 hk) (fun w hw=>(F (hw.ap hp)).sub fun k hk=>by rw[g3];exact p.mem_iff.1 hk) S T w op U V hw
  exact⟨Φ',n,w',q1,⟨W,by rw[X,g3];exact SP.perm p,Y⟩,q5⟩

section
variable {g:G} {k:List Item} {ops:Array Oper} {kp:Nat→Bool} {fuel:Nat} {done:List Nat} {Sw:World→Prop}
theorem Hh (ops:Array Oper) (done:List Nat) {i j:Nat} (h:i≠j):lst ops (i :: j :: done)=lst ops (j :: i :: done):=by
  rw[← fY,← fY,← fY,← fY]
  exact Array.setIfInBounds_comm _ _ (Ne.symm h)
theorem WM.swapd {i j b c:Nat} {f n:Value} (h:WM g k ops S kp fuel (j :: i :: done) ((c,n) :: (b,f) :: l) Sw) (o:i≠j) (p:b≠c):WM g k ops S kp fuel (i :: j :: done) ((b,f) :: (c,n) :: l) Sw:=fun a w q hw=>by
  rw[Hh ops done o]
  refine h a w (q.mono fun m u hm=>?_) hw
  simp only[lk] at hm ⊢
  split at hm
  · rename_i e
    subst e
    rw[if_neg p,if_pos rfl];exact hm
  · rename_i e
    split at hm
    · rename_i d;rw[if_pos d];exact hm
    · rename_i d;rw[if_neg d,if_neg e];exact hm
theorem WM.qq2 {a b:Oper} {c d:Nat} {e f:Value} (i j:Nat) (n:ops[i]?=some a) (o:ops[j]?=some b) (r:OpQ g.P a.op l Sw e) (s:OpQ g.P b.op ((c,e) :: l) Sw f) (t:OpQ g.P b.op l Sw f) (bi:OpQ g.P a.op ((d,f) :: l) Sw e)
    (p:dq a g.n=some c) (q:dq b g.n=some d) (m:∀ w,Sw w→S w) (u:Nat.beq c d=false) (v:Nat.beq i j=false)
    (x:Region.ready .any ops (lst ops done)=[i,j]) (h1:Region.ready .any ops (lst ops (i :: done))=[j]) (y:Region.ready .any ops (lst ops (j :: done))=[i])
    (h:WM g k ops S kp fuel (j :: i :: done) ((d,f) :: (c,e) :: l) Sw):WM g k ops S kp (fuel+2) done l Sw:=
  WM.two i j x (mv n (fun _=>m) r p (WM.one j h1 (mv o (fun _=>m) s q h)))
    (mv o (fun _=>m) t q (WM.one i y (mv n (fun _=>m) bi p (h.swapd (O4 v) (O4 u)))))
end

end Go.Proofs.YtedmfnmbjglmbaaGreat.Eng
