/-
  The engine, part E: literals, stores into rows, elements that are taken out of a row and put back, variables that become data, parts of slices.
  Nothing here names a program.
-/
import Derived.Test.YtedmfnmbjglmbaaGreatED
namespace Go.Proofs.YtedmfnmbjglmbaaGreat.Eng
open Go.RowKit (Below wrap64)
set_option linter.unusedVariables false
set_option linter.unusedSimpArgs false

variable {g:G} {k:List Item} {ops:Array Oper} {rest:List Oper} {l:Env} {Ψ0 H0:Hp} {B0:List Nat} {w0:aD Ψ0 H0 B0} {Φ Φ':Hp} {O:gY} {L:List (List Nat)} {w w':World} {S:World→Prop} {P:Program}

theorem uc (off:Nat):∀ (c:List Value) (j:Nat) (A:Array Value),(c.zipIdx j).foldl (fun cs (p:Value × Nat)=>cs.setIfInBounds (off+p.2) p.1) A=lG A (off+j) c
  | [],j,A=>rfl
  | v :: c,j,A=>by
    rw[List.zipIdx_cons,List.foldl_cons,uc off c (j+1),lG,Nat.add_assoc]

theorem aa {place:Nat→Option (Nat × Nat)} {cells c C':List Value} {i off size:Nat} {v:Value} {rest:List (Nat × Value)} {C:Array Value} (hp:place i=some (off,size)) (a:v.cells.toList=c) (b:c.length=size) (d:Nat.ble (off+size) cells.length=true)
    (f:put cells off c=C') (h:Instr.fill place C'.toArray rest=some C):Instr.fill place cells.toArray ((i,v) :: rest)=some C:=by
  subst f a
  unfold Instr.fill
  simp only[hp]
  have g:v.cells.size=size:=by rw[← b];simp
  rw[if_neg (by simp only[g,List.size_toArray];have:=Nat.le_of_ble_eq_true d;simp;omega)]
  have e:v.cells.zipIdx.foldl (fun cs (p:Value × Nat)=>cs.setIfInBounds (off+p.2) p.1) cells.toArray=(put cells off v.cells.toList).toArray:=by
    rw[← Array.foldl_toList,Array.toList_zipIdx,uc off _ 0,te,Nat.add_zero]
  rw[← h]
  congr 1
theorem ae {place:Nat→Option (Nat × Nat)} {cells:Array Value}:Instr.fill place cells []=some cells:=rfl
theorem ar {place:Nat→Option (Nat × Nat)} {z M:Array Value} {n:Nat} {vs:List (Nat × Value)} {C:Array Value} (a:madeCells z n=M) (h:Instr.fill place M vs=some C):Instr.fill place (madeCells z n) vs=some C:=by rw[a];exact h

theorem sy (z:Array Value):madeCells z 0 = #[]:=Array.eq_empty_of_size_eq_zero (by rw[size_madeCells])
theorem yE (f:Nat→Value) {m:Nat} (h:m=0):Array.map f (Array.range m) = #[]:=Array.eq_empty_of_size_eq_zero (by simp[h])


theorem bz {α:Type} {R:Hp→List Nat→List Value→α→Prop} (K:cB R) {t e sz n:Nat} {parts:Array (Nat × Operand)} {z:Value} {vs:List (Nat × Value)} {C:Array Value} {xs:List α} {Fs:List (List Nat)} {cells:List Value}
    (d:Sl P t e sz=true) (r:Zr P e z) (a7:z.cells.size=sz) (M:Nat.ble (n*sz) 4096=true) (N:Nat.blt 0 sz=true)
    (Q:parts.toList.map (fun p=>(p.1,opv l p.2))=vs.map (fun p=>(p.1,some p.2))) (s:Instr.fill (fun i=>some (i*sz,sz)) (madeCells z.cells (n*sz)) vs=some C) (y:C.toList=cells) (A:RC R sz Φ Fs cells xs) (B:xs.length=n) (S:Kw Φ Fs.flatten) :
    OpE P (.buildSlice t n parts) l (St w0 Φ O L) (fun v Φ' D=>FrH [] Φ Φ'∧OSl R e sz Φ' Fs.flatten v xs) (fun v Φ' D=>St w0 Φ' O (ob v :: L)):=fun nn a w o T U hw=>by
  have V:C.size=n*sz:=by rw[← Array.length_toList,y,A.len,B]
  have a8:n*sz≤4096:=by simpa using M
  have W:0 < sz:=by simpa using N
  have aa:n≤n*sz:=Nat.le_mul_of_pos_right n W
  have E:(w.alloc (.cells C e)).ownsRow 0 e sz (.slice (some ⟨w.heap.size,0,none⟩) n n) xs.length cells:=by
    have:=World.ownsRow_lit (base:=0) (e:=e) (size:=sz) w C n (Nat.zero_le _) (by unfold maxLen;omega) V
    rw[B,← y]
    exact this
  have F:Chg [] w (w.alloc (.cells C e)):=Chg.of_none (mj _ _) (Nat.le_refl _) _
  have G:∀ k∈ob (.slice (some ⟨w.heap.size,0,none⟩) n n),w.heap.size≤k:=fun k hk=>by simp[ob,Value.ownBlock] at hk;omega
  have X:=hw.rowN F G (rz E)
  obtain⟨g1,g2⟩:=xN (v:=.slice none 0 0) K hw.fro F (fun k hk=>.inr (G k hk)) E A S (Dj.empty _)
  refine⟨_,_,[],_,?_,⟨g1,g2⟩,X⟩
  have hu:=w7 d
  have H:(P.info? e).map (·.size)=some sz:=by
    unfold Sl at d
    rw[hu] at d
    simpa using d
  cases b:P.info? e with
  | none=>simp[b] at H
  | some I=>
    have g:I.size=sz:=by simpa[b] using H
    have j:I.zero=some z:=by unfold Zr at r;simpa[b] using r
    have m:(parts.map fun(i,x)=>(i,a.eval x)).toList=vs:=by
      simp only[Array.toList_map]
      have key:∀ (c:List (Nat × Operand)) (us:List (Nat × Value)),c.map (fun p=>(p.1,opv l p.2))=us.map (fun p=>(p.1,some p.2))→c.map (fun p=>(p.1,a.eval p.2))=us:=by
        intro c
        induction c with
        | nil=>intro us h;cases us with
          | nil=>rfl
          | cons u us=>cases h
        | cons q c Y=>intro us h;cases us with
          | nil=>cases h
          | cons u us=>
            simp only[List.map_cons,List.cons.injEq,Prod.mk.injEq] at h
            obtain⟨⟨h1,g⟩,j⟩:=h
            simp only[List.map_cons,Y us j,U.eval g,h1]
      exact key _ _ Q
    have Z:(Instr.buildSlice t n (parts.map fun(i,x)=>(i,a.eval x))).run P w = .ok (.slice (some ⟨w.heap.size,0,none⟩) n n) (w.alloc (.cells C e)):=by
      unfold Instr.buildSlice
      simp only[Sem.run_bind,run_underlying hu,Result.andThen_ok,sizeOf,typeInfo,run_program,b,Sem.run_pure,g]
      rw[if_neg (by simp;omega)]
      by_cases f:n*sz=0
      · have a1:Instr.fill (fun i=>some (i*sz,sz)) #[] vs=some C:=by rw[← s,f,sy]
        rw[if_pos f]
        simp only[Sem.run_pure,Result.andThen_ok,yE _ f,m,a1]
        simp[newRow]
      · simp[f,Sem.run_bind,zeroValue,typeInfo,b,j,m,newRow]
        have:Array.map (fun x=>z.cells[x % z.cells.size]!) (Array.range (n*sz))=madeCells z.cells (n*sz):=rfl
        have a6:List.map (fun x=>(x.fst,a.eval x.snd)) parts.toList=vs:=by simpa using m
        rw[this,a6,s]
        simp
    unfold execOp
    simp only[T]
    simp only[Sem.run_bind,Z];rfl

theorem sF:∀ (vs:List Value) (C:Array Value) (o:Nat),o+vs.length≤C.size→(lG C o vs).toList=o5 C.toList o vs
  | [],C,o,h=>by simp[lG,o5]
  | v :: vs,C,o,h=>by
    rw[lG,sF vs _ (o+1) (by simp at h ⊢;omega)]
    apply p7
    intro j
    simp only[List.length_cons] at h
    rw[mw (by simp;omega),mw (by simp;omega)]
    simp only[Array.toList_setIfInBounds,List.length_cons]
    by_cases h1:o+1≤j∧j < o+1+vs.length
    · rw[if_pos h1,if_pos NR]
      have:j - o=(j - (o+1))+1:=by omega
      rw[this,List.getElem?_cons_succ]
    · rw[if_neg h1]
      by_cases a:j=o
      · subst a;rw[if_pos NR,j3 (by simp;omega)];simp
      · rw[hZ (Ne.symm a),if_neg NR]
theorem G9 {cs vs:List Value} {o N:Nat} (h:o+vs.length≤N) (b:N≤cs.length):(o5 cs o vs).take N=o5 (cs.take N) o vs:=by
  apply p7
  intro j
  rw[hQ,mw NR,mw (by simp;omega)]
  by_cases a:j < N
  · rw[if_pos a,hQ,if_pos a]
  · rw[if_neg a,if_neg NR,hQ,if_neg a]

theorem B3 {t n e sz m o:Nat} {x y:Operand} {v u:Value} {vs cells:List Value} {js:List Nat} {Rr:List (List Nat)} (r:Sz P t n=true)
    (s:opv l x=some (.pointer (some ⟨sb v,so v+o,none⟩))) (z:opv l y=some u) (A:u.cells.toList=vs) (hlen:vs.length=n) (h1:One vs) (hp:Eng.pick js L=some ([ob v],Rr)) (d:oZ Φ e sz v m cells) (hm:0 < m) (M:o+n≤m*sz) :
    ∀ (f:Nat) (a:Act) (w:World) (op:Oper),op.op = .store t x y→Eng.Fr f l a→St w0 Φ O L w→∃ w',(execOp a.eval op).run P w = .ok .skip w'∧Chg (ob v) w w'∧w'.ownsRow 0 e sz v m (o5 cells o vs)∧St w0 (mM Φ v v w') O (ob v :: Rr) w':=fun f a w op B g hw=>by
  subst A
  rcases d.2 with ⟨_,N⟩ | ⟨c,cap,cur,rfl,C,h,D,i,E⟩
  · omega
  · have Q:m*sz≤cap*sz:=hL sz h
    have F:=hw.fro _ _ C
    obtain⟨w',j,G,H⟩:=qY (P:=P) (b:=c) (o:=o) r (by simpa using hlen) F NR h1
    have I:ob (.slice (some ⟨c,0,none⟩) m cap)=[c]:=rfl
    have p:Chg (ob (.slice (some ⟨c,0,none⟩) m cap)) w w':=by rw[I];exact Chg.of_some H (qJ _ j)
    have q:w'.ownsRow 0 e sz (.slice (some ⟨c,0,none⟩) m cap) m (o5 cells o u.cells.toList):=by
      refine⟨by rw[qg (by rw[d.1];omega),d.1],.inr ⟨c,cap,_,rfl,Nat.zero_le _,G,h,D,by rw[Bf];exact i,?_⟩⟩
      rw[sF _ _ _ (by rw[hlen,i];omega)]
      subst E
      exact G9 (by rw[hlen];omega) (by simp;omega)
    refine⟨w',?_,p,q,hw.row hp p (fun k hk=>.inl hk) (rz q)⟩
    have K:opv l x=some (.pointer (some ⟨c,o,none⟩)):=by rw[s];simp[sb,so]
    unfold execOp
    simp only[B,g.eval K,g.eval z]
    simp[Instr.storeAt,Instr.sureAddr,Sem.run_bind,j]

section rows
variable {α:Type} {R:Hp→List Nat→List Value→α→Prop} {t n e sz i:Nat} {x y:Operand} {v u:Value} {vs cs:List Value} {xs:List α} {D F:List Nat} {js:List Nat} {Rr:List (List Nat)} {x':α}

theorem HZ {o:Nat} {cells:List Value} {Fs:List (List Nat)} {b:List α} (f:cB R) (g:Sz P t n=true)
    (h:opv l x=some (.pointer (some ⟨sb v,so v+o,none⟩))) (i:opv l y=some u) (j:u.cells.toList=vs) (hlen:vs.length=n) (h1:One vs) (hp:Eng.pick js L=some ([ob v],Rr)) (m:oZ Φ e sz v b.length cells) (hm:0 < b.length) (p:o+n≤b.length*sz)
    (q:RC R sz Φ Fs (o5 cells o vs) b) (hk:Kw Φ Fs.flatten) (r:∀ w,St w0 Φ O L w→Dj Fs.flatten [ob v].flatten) :
    OpU P (.store t x y) l (St w0 Φ O L) (fun Φ' c=>(Ap w0 O [ob v] Rr∧FrH [ob v].flatten Φ Φ')∧c=Fs.flatten∧OSl R e sz Φ' c v b) (fun Φ' c=>St w0 Φ' O (ob v :: Rr)):=fun s a w op z A hw=>by
  obtain⟨w',B,C,D,E⟩:=B3 g h i j hlen h1 hp m hm p s a w op z A hw
  have d:[ob v].flatten=ob v:=by simp
  obtain⟨g1,g2⟩:=xN f hw.fro C (fun k hk=>.inl hk) D q hk (by have:=r w hw;rwa [d] at this)
  exact⟨_,_,w',B,⟨⟨hw.ap hp,by rw[d];exact g1⟩,rfl,g2⟩,E⟩

theorem Dp (f:cB R) (g:wt R) (j:Sz P t sz=true)
    (k:opv l x=some (.pointer (some ⟨sb v,so v+i*sz,none⟩))) (m:opv l y=some u) (n:u.cells.toList=vs) (hlen:vs.length=sz) (h1:One vs) (hp:Eng.pick js L=some ([ob v],Rr)) (h:OSl R e sz Φ D v xs) (hi:i < xs.length) (o:R Φ F vs x') :
    OpU P (.store t x y) l (St w0 Φ O L) (fun Φ' b=>(Ap w0 O [ob v] Rr∧FrH [ob v].flatten Φ Φ')∧OSl R e sz Φ' [] v (xs.set i x')) (fun Φ' b=>St w0 Φ' O (ob v :: Rr)):=by
  obtain⟨cells,Fs,g1,g2,rfl⟩:=h.ex
  have d:=g2.set hi hlen o
  have c:=d.flat g
  have hle:i*sz+sz≤xs.length*sz:=by rw[← hB];exact hL sz hi
  intro p a w op q r hw
  obtain⟨Φ',b,w',q1,⟨s,z,A⟩,q5⟩:=HZ (P:=P) f j k m n hlen h1 hp (by rw[px];exact g1) (by rw[px];omega) (by rw[px];exact hle) d (by rw[c];exact Kw.nil) (fun w hw=>by rw[c];exact Dj.nil _) p a w op q r hw
  exact⟨Φ',b,w',q1,⟨s,by rw[← c,← z];exact A⟩,q5⟩

structure HSl (R:Hp→List Nat→List Value→α→Prop) (e sz:Nat) (Φ:Hp) (D:List Nat) (v:Value) (xs:List α) (i:Nat) (cs:List Value):Prop where
  kn:Kw Φ D
  lt:i < xs.length
  len:cs.length=sz
  ex:∃ (cells:List Value) (Fs:List (List Nat)),oZ Φ e sz v xs.length cells∧Fs.length=xs.length∧D=(Fs.set i []).flatten∧(cells.drop (i*sz)).take sz=cs ∧
    ∀ j x,j≠i→xs[j]?=some x→R Φ (Fs.getD j []) ((cells.drop (j*sz)).take sz) x

theorem jI (Fs:List (List Nat)) (i:Nat) (h:i < Fs.length):(Fs.getD i []++(Fs.set i []).flatten).Perm Fs.flatten:=by
  induction Fs generalizing i with
  | nil=>simp at h
  | cons G b a=>
    cases i with
    | zero=>simp
    | succ i=>
      simp only[List.set_cons_succ,List.flatten_cons,List.getD_cons_succ]
      have:=a i (by simpa using h)
      rw[← List.append_assoc]
      refine (List.Perm.append_right _ q6).trans ?_
      rw[List.append_assoc]
      exact List.Perm.append_left _ this

theorem OSl.focus (h:OSl R e sz Φ D v xs) {i:Int} {x:α} (hi:idx xs i=some x):∃ cs F c,HSl R e sz Φ c v xs i.toNat cs∧R Φ F cs x∧Kw Φ F∧SP (F++c) D:=by
  obtain⟨cells,Fs,g1,g2,rfl⟩:=h.ex
  have d:=(a8 hi).2.2
  have a:=ux hi
  have hle:i.toNat*sz+sz≤cells.length:=by rw[g2.len,← hB];exact hL sz a
  have b:=jI Fs i.toNat (by rw[g2.flen];exact a)
  refine⟨_,Fs.getD i.toNat [],(Fs.set i.toNat []).flatten,⟨h.kn.sub fun k hk=>b.mem_iff.1 (gb.2 (.inr hk)),a,by simp;omega,cells,Fs,g1,g2.flen,rfl,rfl,fun j y _ f=>g2.el j y f⟩,g2.el _ _ d,h.kn.sub fun k hk=>b.mem_iff.1 (gb.2 (.inl hk)),SP.perm b⟩

theorem HSl.unfocus (h:HSl R e sz Φ D v xs i cs) (g:R Φ F cs x') (hk:Kw Φ F):∃ d,OSl R e sz Φ d v (xs.set i x')∧SP d (F++D):=by
  obtain⟨cells,Fs,g1,g2,rfl,g4,g5⟩:=h.ex
  have hi:=h.lt
  have f:SP (Fs.set i F).flatten (F++(Fs.set i []).flatten):=by
    have:=sM (Fs.set i []) i F
    rw[List.set_set] at this
    exact this.trans (SP.perm q6)
  refine⟨(Fs.set i F).flatten,⟨(hk.app h.kn).sub fun k hk=>f.mem hk,cells,Fs.set i F,by rw[px];exact g1,⟨by rw[g1.1,px],by simp[g2],fun j y a=>?_⟩,rfl⟩,f⟩
  by_cases b:i=j
  · subst b
    rw[j3 hi] at a
    simp only[Option.some.injEq] at a
    subst a
    have c:(Fs.set i F).getD i []=F:=by
      simp only[hS]
      rw[j3 (by rw[g2];exact hi)];rfl
    rw[c,g4];exact g
  · rw[hZ b] at a
    have c:(Fs.set i F).getD j []=Fs.getD j []:=by
      simp only[hS]
      rw[hZ b]
    rw[c];exact g5 j y (Ne.symm b) a

theorem OSl.focusF (c:wt R) (h:OSl R e sz Φ D v xs) {i:Int} {x:α} (hi:idx xs i=some x):∃ cs F,HSl R e sz Φ [] v xs i.toNat cs∧R Φ F cs x:=by
  obtain⟨cs,F,a,h1,d,j,b⟩:=h.focus hi
  obtain⟨cells,Fs,g1,g2,rfl⟩:=h.ex
  have f:=g2.flat c
  rw[f] at b
  have g:a=[]:=by
    rcases a with _ | ⟨k,a⟩
    · rfl
    · have:=b.mem (x:=k) NS
      cases this
  subst g
  exact⟨cs,F,h1,d⟩
theorem HSl.unfocusF (a:wt R) (h:HSl R e sz Φ D v xs i cs) (b:R Φ F cs x'):OSl R e sz Φ [] v (xs.set i x'):=by
  have c:=a _ _ _ _ b
  subst c
  obtain⟨d,h1,f⟩:=h.unfocus b Kw.nil
  obtain⟨cells,Fs,g1,g2,rfl⟩:=h1.ex
  rw[g2.flat a] at h1
  exact h1
theorem HE {i:Int} {x:α} (hi:idx xs i=some x):xs.set i.toNat x=xs:=by
  have h:=(a8 hi).2.2
  apply p7
  intro j
  by_cases a:i.toNat=j
  · subst a;rw[j3 (ux hi),h]
  · rw[hZ a]

theorem HSl.frame {X:List Nat} (d:cB R) (h:HSl R e sz Φ D v xs i cs) (a:FrH X Φ Φ') (f:Dj (ob v) X) (b:Dj D X):HSl R e sz Φ' D v xs i cs:=by
  obtain⟨cells,Fs,g1,g2,g3,g4,g5⟩:=h.ex
  refine⟨a.kw b h.kn,h.lt,h.len,cells,Fs,g1.frame a f,g2,g3,g4,fun j x c g=>d X _ _ _ _ _ a (fun k hk=>b k ?_) (g5 j x c g)⟩
  rw[g3]
  have l:(Fs.set i []).getD j []=Fs.getD j []:=by
    simp only[hS]
    rw[hZ (Ne.symm c)]
  exact mJ (by rw[l];exact hk)
theorem HSl.rg (h:HSl R e sz Φ D v xs i cs):rg Φ (sb v) (so v+i*sz) cs:=by
  obtain⟨cells,Fs,g1,g2,g3,g4,g5⟩:=h.ex
  obtain⟨cap,c,a,_,b⟩:=g1.at_ (by have:=h.lt;omega)
  have:=b.part (i*sz) sz
  rw[g4] at this
  rw[a];exact this
theorem cQ {d:Operand} {ii:Int} {y:α} {S:World→Prop} (b:Sl P t e sz=true) (g:opv l x=some v) (j:opv l d=some (.int .i64 ii)) (h:HSl R e sz Φ D v xs i cs) (hi:idx xs ii=some y) :
    OpQ P (.indexAddr t x d) l S (.pointer (some ⟨sb v,so v+ii.toNat*sz,none⟩)):=fun n a w o k f hw=>by
  obtain⟨m,h1,A⟩:=a8 hi
  obtain⟨cells,Fs,g1,g2,g3,g4,g5⟩:=h.ex
  obtain⟨cap,p,q,_,_⟩:=g1.at_ (by have:=h.lt;omega)
  unfold Sl at b
  split at b
  · rename_i r hu
    simp only[Bool.and_eq_true,beq_iff_eq] at b
    obtain⟨rfl,b⟩:=b
    cases c:P.info? r with
    | none=>simp[c] at b
    | some s=>
      have u:s.size=sz:=by simpa[c] using b
      have z:opv l x=some (.slice (some ⟨sb v,0,none⟩) xs.length cap):=by rw[g,← p]
      unfold execOp;simp only[k,f.eval z,f.eval j]
      rw[q]
      simp[Instr.indexAt,Sem.run_bind,run_underlying hu,asIntOf,m,h1,sizeOf,typeInfo,c,u,Addr.add_mid]
  · cases b
theorem HSl.knO (h:HSl R e sz Φ D v xs i cs):Kw Φ (ob v):=by
  obtain⟨cells,Fs,g1,_⟩:=h.ex
  exact g1.kn
theorem HSl.form (h:HSl R e sz Φ D v xs i cs):∃ a c,v = .slice a xs.length c∧xs.length≤c:=by
  obtain⟨cells,Fs,g1,_⟩:=h.ex
  exact g1.form
theorem HSl.one (h:HSl R e sz Φ D v xs i cs):v.oneCell'=true:=by
  obtain⟨a,c,b,_⟩:=h.form
  rw[b];rfl

theorem tz {cells vs:List Value} {i o:Nat} {sz:Nat} (h:i*sz+sz≤cells.length) (c:o+vs.length≤sz) (j:Nat) :
    ((o5 cells (i*sz+o) vs).drop (j*sz)).take sz=if j=i then o5 ((cells.drop (i*sz)).take sz) o vs else (cells.drop (j*sz)).take sz:=by
  by_cases a:j=i
  · subst a
    rw[if_pos rfl]
    apply p7
    intro m
    rw[hQ,j8,mw NR,mw (by simp;omega),hQ,j8]
    by_cases hm:m < sz
    · rw[if_pos hm,if_pos hm]
      by_cases h1:o≤m∧m < o+vs.length
      · rw[if_pos NR,if_pos h1];congr 1;omega
      · rw[if_neg NR,if_neg h1]
    · rw[if_neg hm,if_neg hm,if_neg NR]
  · rw[if_neg a]
    apply p7
    intro m
    rw[hQ,hQ]
    split
    · rename_i hm
      rw[j8,j8,mw NR,if_neg ?_]
      rcases Nat.lt_or_ge j i with hlt | hge
      · have b:j*sz+sz≤i*sz:=by rw[← hB];exact hL sz hlt
        omega
      · have b:i*sz+sz≤j*sz:=by rw[← hB];exact hL sz NR
        omega
    · rfl

theorem AR {o:Nat} (q:cB R) (r:Sz P t n=true)
    (s:opv l x=some (.pointer (some ⟨sb v,so v+i*sz+o,none⟩))) (b:opv l y=some u) (z:u.cells.toList=vs) (hlen:vs.length=n) (h1:One vs) (hp:Eng.pick js L=some ([ob v],Rr)) (h:HSl R e sz Φ D v xs i cs) (A:Nat.ble (o+n) sz=true)
    {cs':List Value} (B:o5 cs o vs=cs') (C:Ap w0 O [ob v] Rr→Dj D [ob v].flatten) :
    OpU P (.store t x y) l (St w0 Φ O L) (fun Φ' E=>(Ap w0 O [ob v] Rr∧FrH [ob v].flatten Φ Φ')∧HSl R e sz Φ' D v xs i cs') (fun Φ' E=>St w0 Φ' O (ob v :: Rr)):=fun F a w op G H hw=>by
  subst B
  obtain⟨cells,Fs,g1,g2,g3,g4,g5⟩:=h.ex
  have hi:=h.lt
  have c:o+n≤sz:=by simpa using A
  have hle:i*sz+sz≤xs.length*sz:=by rw[← hB];exact hL sz hi
  obtain⟨w',I,Q,K,M⟩:=B3 (o:=i*sz+o) r (by rw[s];simp[Nat.add_assoc]) b z hlen h1 hp g1 NR NR F a w op G H hw
  have g:[ob v].flatten=ob v:=by simp
  have d:FrH (ob v) Φ (mM Φ v v w'):=Bx hw.fro (qV (fun k hk=>.inl hk))
  have m:Dj D (ob v):=by have:=C (hw.ap hp);rwa [g] at this
  have p:i*sz+sz≤cells.length:=by rw[g1.1];exact hle
  refine⟨_,[],w',I,⟨⟨hw.ap hp,by rw[g];exact d⟩,d.kw m h.kn,hi,by rw[qg (by rw[h.len,hlen];exact c)];exact h.len,o5 cells (i*sz+o) vs,Fs,oZ.of_owns K (fun k hk=>by simp[mM,hk]),g2,g3,?_,fun j y f b=>?_⟩,M⟩
  · rw[tz p (by rw[hlen];exact c),if_pos rfl,g4]
  · rw[tz p (by rw[hlen];exact c),if_neg f]
    refine q (ob v) _ _ _ _ _ d (fun k hk=>m k ?_) (g5 j y f b)
    rw[g3]
    have N:(Fs.set i []).getD j []=Fs.getD j []:=by
      simp only[hS]
      rw[hZ (Ne.symm f)]
    exact mJ (by rw[N];exact hk)
end rows

def ssl {α:Type} (xs:List α) (a b:Int):Option (List α):=if 0≤a∧a≤b∧b≤xs.length then some ((xs.take b.toNat).drop a.toNat) else none
theorem yo {α:Type} {xs ys:List α} {a b:Int} (h:ssl xs a b=some ys):0≤a∧a≤b∧b≤xs.length∧ys=(xs.take b.toNat).drop a.toNat:=by
  unfold ssl at h;split at h
  · rename_i h1;simp only[Option.some.injEq] at h;exact⟨h1.1,h1.2.1,h1.2.2,h.symm⟩
  · cases h
def slc (v:Value) (l h sz:Nat):Value:=match v with
  | .slice p _ c=>.slice (if c=l then p else p.map (·.add (l*sz))) (h - l) (c - l)
  | _=>v

theorem yb {v:Value} {l h sz:Nat} {p:Option Addr} {n c:Nat} (a:v = .slice p n c):slc v l h sz = .slice (if c=l then p else p.map (·.add (l*sz))) (h - l) (c - l):=by subst a;rfl

theorem RSl.sub {α:Type} {R:Hp→List Nat→List Value→α→Prop} {sz:Nat} {F:List Nat} {v:Value} {xs ys:List α} {a b:Int} (h:RSl R sz Φ F v xs) (t:ssl xs a b=some ys):∃ l,RSl R sz Φ l (slc v a.toNat b.toNat sz) ys∧∀ k∈l,k∈F:=by
  obtain⟨G,h1,H,rfl⟩:=yo t
  obtain⟨p,c,d,I⟩:=h.form
  obtain⟨Fb,Fs,g0,g1,g2,g3⟩:=h.elems
  have hlen:((xs.take b.toNat).drop a.toNat).length=b.toNat - a.toNat:=by simp;omega
  have m:∀ k∈((Fs.take b.toNat).drop a.toNat).flatten,k∈Fs.flatten:=fun k hk=>by
    obtain⟨F,g,w⟩:=List.mem_flatten.1 hk
    exact List.mem_flatten.2 ⟨F,List.mem_of_mem_take (List.mem_of_mem_drop g),w⟩
  by_cases he:(xs.take b.toNat).drop a.toNat=[]
  · rw[he]
    rw[he] at hlen
    simp only[List.length_nil] at hlen
    exact⟨[],⟨⟨_,_,by rw[yb d,← hlen];rfl,Nat.zero_le _⟩,fun h=>absurd rfl h,Kw.nil,[],[],.inr ⟨rfl,rfl⟩,rfl,rfl,fun i x hi=>by simp at hi⟩,fun k hk=>by cases hk⟩
  · have K:a.toNat < b.toNat:=by
      have:=List.length_pos_iff.2 he
      omega
    have n:xs≠[]:=by rintro rfl;simp at he
    obtain⟨j,o⟩:=h.addr n
    have y:j=c∧p=some ⟨sb v,so v,none⟩:=by
      rw[o] at d;simp only[Value.slice.injEq] at d;exact⟨d.2.2,d.1.symm⟩
    obtain⟨rfl,rfl⟩:=y
    have f:slc v a.toNat b.toNat sz = .slice (some ⟨sb v,so v+a.toNat*sz,none⟩) (b.toNat - a.toNat) (j - a.toNat):=by
      rw[yb d,if_neg NR]
      simp[Addr.add_mid]
    have q:sb (slc v a.toNat b.toNat sz)=sb v:=by rw[f];rfl
    have r:so (slc v a.toNat b.toNat sz)=so v+a.toNat*sz:=by rw[f];rfl
    have z:ob (slc v a.toNat b.toNat sz)=ob v:=by
      rw[f]
      have A:∀ u:Value,u = .slice (some ⟨sb v,so v,none⟩) xs.length j→ob u=[sb v]:=fun u hu=>by subst hu;rfl
      rw[A v o];rfl
    have s:Fb=ob v:=g0.resolve_right fun e=>n e.1
    refine⟨ob v++((Fs.take b.toNat).drop a.toNat).flatten,⟨⟨_,_,by rw[f,hlen],by rw[hlen];omega⟩,fun _=>⟨_,by rw[q,r,hlen];exact f⟩,?_,ob v,_,.inl z.symm,?_,rfl,fun i x hi=>?_⟩,fun k hk=>?_⟩
    · exact h.kn.sub fun k hk=>by
        rw[g2,s]
        rcases gb.1 hk with hk | hk
        · exact gb.2 (.inl hk)
        · exact gb.2 (.inr (m k hk))
    · rw[hlen];simp[g1];omega
    · rw[j8,hQ] at hi
      split at hi
      · rename_i B
        obtain⟨cs,C,D,E⟩:=g3 _ x hi
        refine⟨cs,C,?_,?_⟩
        · rw[q,r]
          have:so v+a.toNat*sz+i*sz=so v+(a.toNat+i)*sz:=by rw[Nat.add_mul];omega
          rw[this];exact D
        · have g:((Fs.take b.toNat).drop a.toNat).getD i []=Fs.getD (a.toNat+i) []:=by
            simp only[hS]
            rw[j8,hQ,if_pos B]
          rw[g];exact E
      · cases hi
    · rw[g2,s]
      rcases gb.1 hk with hk | hk
      · exact gb.2 (.inl hk)
      · exact gb.2 (.inr (m k hk))

theorem OSl.pre {α:Type} {R:Hp→List Nat→List Value→α→Prop} {e sz:Nat} {D:List Nat} {v:Value} {xs ys:List α} {b:Int} (h:OSl R e sz Φ D v xs) (l:ssl xs 0 b=some ys):∃ a,OSl R e sz Φ a (slc v 0 b.toNat sz) ys∧SP a D∧ob (slc v 0 b.toNat sz)=ob v:=by
  obtain⟨s,h1,t,rfl⟩:=yo l
  obtain⟨cells,Fs,g1,g2,rfl⟩:=h.ex
  have hlen:(xs.take b.toNat).length=b.toNat:=by simp;omega
  have c:((xs.take b.toNat).drop (0:Int).toNat).length=b.toNat:=by simpa using by omega
  have u:b.toNat*sz≤cells.length:=by rw[g2.len];exact hL sz NR
  have d:SP (Fs.take b.toNat).flatten Fs.flatten:=⟨(Fs.drop b.toNat).flatten,by rw[← List.flatten_append,List.take_append_drop]⟩
  refine⟨(Fs.take b.toNat).flatten,⟨h.kn.sub fun k hk=>d.mem hk,cells.take (b.toNat*sz),Fs.take b.toNat,?_,⟨by rw[c,List.length_take];omega,by simp[g2.flen],fun i x hi=>?_⟩,rfl⟩,d,?_⟩
  · rw[c]
    refine⟨by simp;omega,?_⟩
    rcases g1.2 with ⟨rfl,m⟩ | ⟨f,cap,cur,rfl,n,w,o,p,q⟩
    · have g:b.toNat=0:=by omega
      exact .inl ⟨by rw[g];rfl,g⟩
    · refine .inr ⟨f,cap,cur,?_,n,NR,o,p,?_⟩
      · simp only[slc,Nat.sub_zero]
        split
        · rfl
        · simp[Addr.add_mid]
      · rw[← q,List.take_take,Nat.min_eq_left (hL sz NR)]
  · simp only[Int.toNat_zero,List.drop_zero] at hi ⊢
    rw[hQ] at hi
    split at hi
    · rename_i j
      have r:(Fs.take b.toNat).getD i []=Fs.getD i []:=by
        simp only[hS]
        rw[hQ,if_pos j]
      have hle:i*sz+sz≤b.toNat*sz:=by rw[← hB];exact hL sz j
      have:((cells.take (b.toNat*sz)).drop (i*sz)).take sz=(cells.drop (i*sz)).take sz:=by
        rw[List.drop_take,List.take_take,Nat.min_eq_left NR]
      rw[r,this];exact g2.el i x hi
    · cases hi
  · rcases g1.2 with ⟨rfl,m⟩ | ⟨f,cap,cur,rfl,_⟩
    · rfl
    · simp only[slc]
      split
      · rfl
      · simp[ob,Value.ownBlock,Addr.add_mid]

section
variable {α:Type} {R:Hp→List Nat→List Value→α→Prop} {t e sz:Nat} {F:List Nat} {v:Value} {xs ys:List α} {x lo hi:Operand} {a b:Int} {l:Env} {S:World→Prop}

theorem JF (a:Sl P t e sz=true):P.underlying t=some (.slice (P.elem t))∧∀ w,(sizeOf (P.elem t)).run P w = .ok sz w:=by
  have hu:=w7 a
  have he:P.elem t=e:=by simp[Program.elem,hu]
  have c:(P.info? e).map (·.size)=some sz:=by
    unfold Sl at a;rw[hu] at a;simpa using a
  cases b:P.info? e with
  | none=>simp[b] at c
  | some d=>
    have f:d.size=sz:=by simpa[b] using c
    refine⟨by rw[he];exact hu,fun w=>?_⟩
    simp[sizeOf,typeInfo,he,b,f]

theorem Kp (d:Sl P t e sz=true) (f:opv l x=some v) (g:opv l hi=some (.int .i64 b)) (h:RSl R sz Φ F v xs) (i:ssl xs 0 b=some ys):OpQ P (.slice t x none (some hi) none) l S (slc v (0:Int).toNat b.toNat sz):=fun n A w o j a hw=>by
  obtain⟨q,h1,r,rfl⟩:=yo i
  obtain⟨p,c,k,s⟩:=h.form
  obtain⟨hu,m⟩:=JF d
  unfold execOp;simp only[j,a.eval f,Option.map_some,Option.map_none,a.eval g,k]
  rw[yb rfl]
  simp only[Sem.run_bind,run_sliceAt_slice w t _ _ _ _ hu,run_slice_h w t p _ c hu .i64 b h1 NR,m]
  rfl

end

end Go.Proofs.YtedmfnmbjglmbaaGreat.Eng
