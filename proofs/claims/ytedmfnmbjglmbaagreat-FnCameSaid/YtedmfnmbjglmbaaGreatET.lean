/-
  The engine, part T: slices.SortFunc at structs, out of the kit's shelf.
  Nothing here names a program.
-/
import Derived.Test.YtedmfnmbjglmbaaGreatES
import Derived.Shelf.SlSortCmp.WholeK
import Derived.Shelf.SlSortCmp.NoneTotal
namespace Go.Proofs.YtedmfnmbjglmbaaGreat.Eng
open Go.Shelf Go.Sort
set_option linter.unusedVariables false
set_option linter.unusedSimpArgs false
/-- What nothing turned in is what was, and more. -/
theorem Chg.grown {w w':World} (h:Chg [] w w'):∃ q os,w'=grow (w.drewN q) os:=by
  refine⟨w'.drawn - w.drawn,w'.heap.extract w.heap.size w'.heap.size,?_⟩
  have d:w.heap++w'.heap.extract w.heap.size w'.heap.size=w'.heap:=by
    apply Array.ext_getElem?
    intro i
    have g:=h.size
    rw[Array.getElem?_append]
    split
    · rename_i e
      exact (h.block i e NS).symm
    · rename_i e
      rw[Array.getElem?_extract]
      by_cases j:i < w'.heap.size
      · rw[if_pos NR];congr 1;omega
      · rw[if_neg NR,Array.getElem?_eq_none NR]
  have f:=h.drawn
  cases w'
  cases w
  simp only[grow,World.drewN] at *
  obtain⟨a,b,c,_,_,_⟩:=h
  simp only at a b c d f
  subst a;subst b;subst c
  congr 1
  · exact d.symm
  · omega
section
variable {β:Type} [Inhabited β] (enc:β→List Value) (k:Nat) (w:World) (g m:Nat) (d:Array β) (os:Array Obj)
theorem wk {j:Nat} (a:j < w.heap.size) (b:j≠g):(sortWorldK enc k w g 0 m d os).heap[j]?=w.heap[j]?:=by
  unfold sortWorldK grow putRowK putRow mapBlock Go.Sort.ahead
  simp only
  rw[Array.getElem?_append_left (by simpa using a),Array.getElem?_modify,if_neg (fun e=>b e.symm)]
theorem GX {cur:Array Value} {e:TypeId} {a:Nat × Nat} (h:w.heap[g]?=some (.cells cur e a)):(sortWorldK enc k w g 0 m d os).heap[g]?=some (.cells (putCells id 0 (flatK enc k d) cur) e a):=by
  have b:=(Array.getElem?_eq_some_iff.1 h).1
  unfold sortWorldK grow putRowK putRow mapBlock Go.Sort.ahead
  simp only
  rw[Array.getElem?_append_left (by simpa using b),Array.getElem?_modify,if_pos rfl,h]
  rfl
theorem Jx:Chg [g] w (sortWorldK enc k w g 0 m d os):=by
  refine⟨rfl,rfl,rfl,?_,fun j a b=>wk enc k w g m d os a (by simpa using b),?_⟩
  · unfold sortWorldK grow putRowK putRow mapBlock Go.Sort.ahead
    simp
  · exact Nat.le_add_right _ _
end
theorem Cf {β:Type} [Inhabited β] {enc:β→List Value} {sz:Nat} (hk:∀ x,(enc x).length=sz) (d:Array β) {i:Nat} (c:i < d.size):((flatK enc sz d).toList.drop (i*sz)).take sz=enc d[i]!:=by
  have hle:i*sz+sz≤d.size*sz:=by rw[← Nat.succ_mul];exact hL sz c
  refine List.ext_getElem (by simp[hk];omega) fun j h1 a=>?_
  rw[hk] at a
  have b:=get_flatK enc sz d (i*sz+j) NR
  rw[List.getElem_take,List.getElem_drop,Array.getElem_toList]
  rw[getElem!_pos _ _ (by simp;omega)] at b
  rw[b]
  have e:(i*sz+j) / sz=i:=by rw[Nat.add_comm,Nat.add_mul_div_right _ _ NR,Nat.div_eq_of_lt a,ho]
  have f:(i*sz+j) % sz=j:=by rw[Nat.add_comm,Nat.add_mul_mod_self_right,Nat.mod_eq_of_lt a]
  rw[e,f,getElem!_pos _ _ (by rw[hk];exact a)]
set_option maxHeartbeats 1000000 in
theorem CO {P:Program} {M:Ren} (V:SlLaysF0.n6 P M) {α:Type} {R:Hp→List Nat→List Value→α→Prop} {e sz:Nat} (W:cB R) (h1:gt R) (hs:0 < sz)
    (aE:∀ w,(isAgg (M.t 24)).run P w = .ok true w) (zE:∀ w,(Go.sizeOf (M.t 24)).run P w = .ok sz w)
    {Ψ n:Hp} {l:Value} {A:List Nat} {u:Nat} {B:List Value} (w0:aD Ψ n [ob l].flatten) (d:List α) (cmp:α→α→Option Int) (X:OSl R e sz n A l d) (hF:Fun P u=true)
    (af:∀ {s:Hp} {w':World},FrH [ob l].flatten n s→In s w'→∀ (a b:α) {ca cb:List Value} {Fa Fb:List Nat},R s Fa ca a→R s Fb cb b→∀ {r:Int},cmp a b=some r→Calls P u (([.agg ca.toArray,.agg cb.toArray]:List Value)++B).toArray w' (lw (.int .i64 r) w'))
    (Y:Dj A [ob l].flatten) {r:List α} (h:Cu d cmp=some r) :
    Calls P (M.f 6) #[l,.func (.func u) #[] B.toArray] w0.w (bc n w0.w [ob l].flatten (fun s Fs v=>∃ Do:List Nat,v = .tuple #[]∧Fs=[ob l]∧OSl R e sz s Do l r∧(∀ k∈Do,k∈A))):=by
  obtain⟨hlen,c,H,aq,rfl⟩:=Ft h
  obtain⟨cells,Fs,⟨ar,ag⟩,hrc,hD⟩:=X.ex
  have rB:∀ {w':World},w'=w0.w→d=[]→bc n w0.w [ob l].flatten (fun s Fs v=>∃ Do:List Nat,v = .tuple #[]∧Fs=[ob l]∧OSl R e sz s Do l (srt c d)∧(∀ k∈Do,k∈A)) (.returned (.tuple #[])) w':=fun hw h0=>by
    subst hw
    have au:srt c d=d:=by rw[h0];rfl
    exact⟨_,n,[ob l],rfl,Chg.refl _ _,w0.fro,fun _ _ _=>rfl,w0.nd,fun k hk=>⟨.inl hk,w0.lt k hk⟩,A,rfl,rfl,by rw[au];exact X,fun k hk=>hk⟩
  by_cases N:d=[]
  · rcases ag with ⟨rfl,_⟩ | ⟨g,cap,cur,I,_⟩
    · exact (AnyF.slices_SortFunc_none V none 0 _ w0.w).mono fun Z w' ⟨he,hw⟩=>by rw[he];exact rB hw N
    · have av:l = .slice (some ⟨g,0,none⟩) 0 cap:=by rw[I,N];rfl
      have:=(AnyF.slices_SortFunc_none V (some ⟨g,0,none⟩) cap (.func (.func u) #[] B.toArray) w0.w).mono (R':=bc n w0.w [ob l].flatten (fun s Fs v=>∃ Do:List Nat,v = .tuple #[]∧Fs=[ob l]∧OSl R e sz s Do l (srt c d)∧(∀ k∈Do,k∈A))) fun Z w' ⟨he,hw⟩=>by rw[he];exact rB hw N
      rw[← av] at this
      exact this
  · have aS:0 < d.length:=List.length_pos_iff.2 N
    rcases ag with ⟨_,h0⟩ | ⟨g,cap,cur,I,hg,a6,aw,a7,ax⟩
    · omega
    have K:[ob l].flatten=[g]:=by rw[I];rfl
    rw[K] at af Y
    rw[congrArg (bc n w0.w) K]
    have a8:=w0.fro _ _ hg
    have ah:=w0.fro.lt hg
    let p:Nat→Nat:=fun i=>if i < d.length then i else 0
    have O:∀ i,p i < d.length:=fun i=>by show (if i < d.length then i else 0) < _;split <;> omega
    let enc:Nat→List Value:=fun i=>(cells.drop (p i*sz)).take sz
    let key:Nat→α:=fun i=>d[p i]'(O i)
    have aa:∀ i,(enc i).length=sz:=fun i=>by
      have hle:p i*sz+sz≤d.length*sz:=by rw[← Nat.succ_mul];exact hL sz (O i)
      show ((cells.drop (p i*sz)).take sz).length=sz
      rw[List.length_take,List.length_drop,ar];omega
    have Q:∀ i,R n (Fs.getD (p i) []) (enc i) (key i):=fun i=>hrc.el _ _ (List.getElem?_eq_getElem (O i))
    have ab:∀ i,Dj (Fs.getD (p i) []) [g]:=fun i k hk=>Y k (by rw[hD];exact mJ hk)
    let cf:Nat→Nat→Int:=fun i j=>c (key i) (key j)
    have hO:SWO (ltOf cf):=by
      refine⟨fun x=>?_,fun x y z a b=>?_,fun x y z a b=>?_⟩
      · exact decide_eq_false (H.irr _)
      · exact decide_eq_true (H.tr _ _ _ (of_decide_eq_true a) (of_decide_eq_true b))
      · refine decide_eq_false fun a'=>?_
        exact H.le (of_decide_eq_false b) (of_decide_eq_false a) a'
    have eg:∀ args w,(callFunc u args).run P w = .ok (.enter u args) w:=fun args w=>rD hF w
    let Φn:Hp:=fun k=>if k=g then none else n k
    have ad:FrH [g] n Φn:=fun k o hk L=>by show (if k=g then none else n k)=some o;rw[if_neg (by simpa using hk)];exact L
    have ay:CmpLays P u B.toArray enc sz cf g 0 (Array.range d.length).size w0.w:=fun m os dk aT x y=>by
      have az:In Φn (sortWorldK enc sz w0.w g 0 m dk os):=fun k o hk=>by
        have hk:(if k=g then none else n k)=some o:=hk
        split at hk
        · cases hk
        · rename_i aA
          rw[wk enc sz w0.w g m dk os (w0.fro.lt hk) aA]
          exact w0.fro _ _ hk
      have ec : #[Value.agg (enc x).toArray,Value.agg (enc y).toArray]++B.toArray=(([.agg (enc x).toArray,.agg (enc y).toArray]:List Value)++B).toArray:=by simp
      rw[ec]
      exact (af ad az (key x) (key y) (W _ _ _ _ _ _ ad (ab x) (Q x)) (W _ _ _ _ _ _ ad (ab y) (Q y)) (aq _ (List.getElem_mem _) _ (List.getElem_mem _))).mono fun Z w' ⟨he,S⟩=>⟨he,S.grown⟩
    have hH:HoldsK enc sz w0.w g 0 (Array.range d.length):=fun j hj=>by
      have C:j < d.length*sz:=by simpa using hj
      have ai:j / sz < d.length:=by rw[Nat.div_lt_iff_lt_mul hs];exact C
      have aj:j < cur.size:=by rw[a7];exact q4 C (hL sz a6)
      have hx:p (j / sz)=j / sz:=by show (if j / sz < d.length then j / sz else 0)=_;rw[if_pos ai]
      have e0:(Array.range d.length)[j / sz]! = j / sz:=by rw[getElem!_pos (Array.range d.length) (j / sz) (by simpa using ai)];simp
      have e1:(flatK enc sz (Array.range d.length))[j]! = cur[j]:=by
        rw[get_flatK enc sz _ j (by simpa using C),e0]
        have aB:j % sz < (enc (j / sz)).length:=by rw[aa];exact Nat.mod_lt _ hs
        rw[getElem!_pos (enc (j / sz)) (j % sz) aB]
        show ((cells.drop (p (j / sz)*sz)).take sz)[j % sz]=_
        rw[List.getElem_take,List.getElem_drop]
        have e2:p (j / sz)*sz+j % sz=j:=by rw[hx,Nat.mul_comm];exact Nat.div_add_mod j sz
        have:cells[j]?=some cur[j]:=by
          rw[← ax,List.getElem?_take,if_pos C,Array.getElem?_toList,Array.getElem?_eq_getElem aj]
        have h5:cells[p (j / sz)*sz+j % sz]?=some cur[j]:=by rw[e2];exact this
        exact (gx.1 h5).2
      refine⟨?_,?_⟩
      · simp only[World.cell?,a8,ho]
        rw[e1]
        simp[Array.getElem?_eq_getElem aj]
      · simp[World.frozen?,a8]
    have ak:=AnyQ.slices_SortFunc V sz aE zE enc aa (fun i=>h1 _ _ _ _ (Q i)) cf hO u B.toArray g 0 cap (Array.range d.length) w0.w eg ay hH ah (by simp;omega)
    have aC:l = .slice (some ⟨g,0,none⟩) ((Array.range d.length).size:Nat) cap:=by rw[Array.size_range];exact I
    rw[← aC] at ak
    refine ak.mono fun Z w' ⟨he,f,T,os,aF,al,hw⟩=>?_
    subst hw
    rw[he]
    obtain⟨U,_,hp⟩:=aF
    rw[Array.size_range] at U hp al
    have aG:f.toList.Perm (List.range d.length):=by
      have a1:(f.extract 0 d.length).toList=f.toList:=by rw[← U];simp
      have a2:((Array.range d.length).extract 0 d.length).toList=List.range d.length:=by simp
      rwa [a1,a2] at hp
    have aH:(List.range d.length).map key=d:=List.ext_getElem NS fun i a b=>by
      simp only[List.getElem_map,List.getElem_range]
      show d[p i]'(O i)=d[i]
      congr 1
      show (if i < d.length then i else 0)=i
      rw[if_pos b]
    have hr:f.toList.map key=srt c d:=by
      refine uz H ?_ (xv H _) ?_
      · unfold Srt
        rw[List.pairwise_iff_getElem]
        intro i j t hj aI
        have aJ:i < f.size:=by simpa using t
        have C:j < f.size:=by simpa using hj
        have:=al i j (Nat.zero_le _) aI NR
        rw[getElem!_pos f i aJ,getElem!_pos f j C] at this
        simp only[List.getElem_map,Array.getElem_toList]
        exact of_decide_eq_false this
      · exact (aG.map key).trans (by rw[aH];exact (lB d).symm)
    have aK:=GX enc sz w0.w g T f os a8
    have S:=Jx enc sz w0.w g T f os
    let s:Hp:=fun k=>if k=g then some (.cells (putCells id 0 (flatK enc sz f) cur) e (0,0)) else n k
    have an:FrH [g] n s:=fun k o hk L=>by show (if k=g then _ else n k)=some o;rw[if_neg (by simpa using hk)];exact L
    have aL:s g=some (.cells (putCells id 0 (flatK enc sz f) cur) e (0,0)):=if_pos rfl
    have aM:In s (sortWorldK enc sz w0.w g 0 T f os):=fun k o hk=>by
      have hk:(if k=g then some (.cells (putCells id 0 (flatK enc sz f) cur) e (0,0)) else n k)=some o:=hk
      by_cases D:k=g
      · rw[if_pos D] at hk
        rw[D,aK];exact hk
      · rw[if_neg D] at hk
        rw[wk enc sz w0.w g T f os (w0.fro.lt hk) D]
        exact w0.fro _ _ hk
    have E:(srt c d).length=d.length:=(lB d).length_eq
    have G:(flatK enc sz f).size=d.length*sz:=by rw[size_flatK,U]
    have aN:(putCells id 0 (flatK enc sz f) cur).size=cur.size:=by unfold putCells;simp
    have ae:∀ k∈((f.toList.map fun i=>Fs.getD (p i) []).flatten),k∈A:=fun k hk=>by
      obtain⟨F,aO,aP⟩:=List.mem_flatten.1 hk
      obtain⟨i,_,rfl⟩:=List.mem_map.1 aO
      rw[hD];exact mJ aP
    refine⟨_,s,[ob l],rfl,S,aM,fun k hk D=>if_neg (by simpa using D),by rw[K];simp,fun k hk=>⟨.inl (by rw[K] at hk;exact hk),?_⟩,(f.toList.map fun i=>Fs.getD (p i) []).flatten,rfl,rfl,⟨fun k hk=>?_,(flatK enc sz f).toList,f.toList.map fun i=>Fs.getD (p i) [],⟨by rw[E,Array.length_toList,G],.inr ⟨g,cap,_,by rw[E];exact I,aL,by rw[E];exact a6,aw,by rw[aN];exact a7,?_⟩⟩,⟨by rw[E,Array.length_toList,G],by rw[List.length_map,Array.length_toList,U,E],fun i x t=>?_⟩,rfl⟩,ae⟩
    · rw[K] at hk
      simp only[List.mem_singleton] at hk
      subst hk
      exact q4 ah S.size
    · obtain⟨o,L⟩:=X.kn k (ae k hk)
      exact⟨o,an k o (Y k (ae k hk)) L⟩
    · rw[E]
      refine List.ext_getElem? fun i=>?_
      rw[List.getElem?_take]
      split
      · rename_i t
        have aQ:i < cur.size:=by rw[a7];exact q4 t (hL sz a6)
        rw[Array.getElem?_toList,Array.getElem?_toList]
        unfold putCells
        rw[Array.getElem?_mapIdx,Array.getElem?_eq_getElem aQ,Array.getElem?_eq_getElem (by rw[G];exact t)]
        simp only[Option.map_some,Nat.zero_le,true_and,ho,G,t,if_true,Nat.sub_zero,id]
        rw[getElem!_pos _ _ (by rw[G];exact t)]
      · rename_i t
        rw[Array.getElem?_toList,Array.getElem?_eq_none (by rw[G];omega)]
    · rw[← hr] at t
      rw[List.getElem?_map,Option.map_eq_some_iff] at t
      obtain⟨q,hq,rfl⟩:=t
      have ao:i < f.size:=by have:=(gx.1 hq).1;simpa using this
      have aR:f[i]! = q:=by
        rw[getElem!_pos f i ao]
        have:=(gx.1 hq).2
        simpa using this
      rw[Cf aa f ao,aR]
      have e3:(f.toList.map fun i=>Fs.getD (p i) []).getD i []=Fs.getD (p q) []:=by
        rw[List.getD_eq_getElem?_getD,List.getElem?_map,hq];rfl
      rw[e3]
      exact W _ _ _ _ _ _ an (ab q) (Q q)
end Go.Proofs.YtedmfnmbjglmbaaGreat.Eng
