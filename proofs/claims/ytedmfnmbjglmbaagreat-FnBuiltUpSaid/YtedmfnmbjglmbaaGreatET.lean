/-
  The engine, part T: slices.SortFunc at structs, out of the kit's shelf.
  Nothing here names a program.
-/
import Derived.Test.YtedmfnmbjglmbaaGreatES
import Derived.Shelf.SlSortCmp.WholeK
import Derived.Shelf.SlSortCmp.NoneTotal
namespace Go.Proofs.YtedmfnmbjglmbaaGreat.Eng
open Go.Shelf Go.Sort
set_option linter.unusedVariables false
set_option linter.unusedSimpArgs false
/-- What nothing turned in is what was, and more. -/
theorem Chg.grown {w w':World} (h:Chg [] w w'):∃ q os,w'=grow (w.drewN q) os:=by
  refine ⟨w'.drawn - w.drawn,w'.heap.extract w.heap.size w'.heap.size,?_⟩
  have hh:w.heap++w'.heap.extract w.heap.size w'.heap.size=w'.heap:=by
    apply Array.ext_getElem?
    intro i
    have hs:=h.size
    rw [Array.getElem?_append]
    split
    · rename_i hi
      exact (h.block i hi (by simp)).symm
    · rename_i hi
      rw [Array.getElem?_extract]
      by_cases hi2:i < w'.heap.size
      · rw [if_pos (by omega)]; congr 1; omega
      · rw [if_neg (by omega),Array.getElem?_eq_none (by omega)]
  have hd:=h.drawn
  cases w'
  cases w
  simp only [grow,World.drewN] at *
  obtain ⟨a,b,c,_,_,_⟩:=h
  simp only at a b c hh hd
  subst a; subst b; subst c
  congr 1
  · exact hh.symm
  · omega
section
variable {β:Type} [Inhabited β] (enc:β→List Value) (k:Nat) (w:World) (g m:Nat) (d:Array β) (os:Array Obj)
theorem ua {j:Nat} (hj:j < w.heap.size) (hg:j≠g):(sortWorldK enc k w g 0 m d os).heap[j]?=w.heap[j]?:=by
  unfold sortWorldK grow putRowK putRow mapBlock Go.Sort.ahead
  simp only
  rw [Array.getElem?_append_left (by simpa using hj),Array.getElem?_modify,if_neg (fun e=>hg e.symm)]
theorem Ej {cur:Array Value} {e:TypeId} {fz:Nat × Nat} (h:w.heap[g]?=some (.cells cur e fz)):(sortWorldK enc k w g 0 m d os).heap[g]?=some (.cells (putCells id 0 (flatK enc k d) cur) e fz):=by
  have hj:=(Array.getElem?_eq_some_iff.1 h).1
  unfold sortWorldK grow putRowK putRow mapBlock Go.Sort.ahead
  simp only
  rw [Array.getElem?_append_left (by simpa using hj),Array.getElem?_modify,if_pos rfl,h]
  rfl
theorem He:Chg [g] w (sortWorldK enc k w g 0 m d os):=by
  refine ⟨rfl,rfl,rfl,?_,fun j hj hg=>ua enc k w g m d os hj (by simpa using hg),?_⟩
  · unfold sortWorldK grow putRowK putRow mapBlock Go.Sort.ahead
    simp
  · exact Nat.le_add_right _ _
end
theorem AN {β:Type} [Inhabited β] {enc:β→List Value} {sz:Nat} (hk:∀ x,(enc x).length=sz) (d:Array β) {i:Nat} (hi:i < d.size):((flatK enc sz d).toList.drop (i*sz)).take sz=enc d[i]!:=by
  have hle:i*sz+sz≤d.size*sz:=by rw [← Nat.succ_mul]; exact Nat.mul_le_mul_right sz hi
  refine List.ext_getElem (by simp [hk]; omega) fun j h1 h2=>?_
  rw [hk] at h2
  have h3:=get_flatK enc sz d (i*sz+j) (by omega)
  rw [List.getElem_take,List.getElem_drop,Array.getElem_toList]
  rw [getElem!_pos _ _ (by simp; omega)] at h3
  rw [h3]
  have e1:(i*sz+j) / sz=i:=by rw [Nat.add_comm,Nat.add_mul_div_right _ _ (by omega),Nat.div_eq_of_lt h2,Nat.zero_add]
  have e2:(i*sz+j) % sz=j:=by rw [Nat.add_comm,Nat.add_mul_mod_self_right,Nat.mod_eq_of_lt h2]
  rw [e1,e2,getElem!_pos _ _ (by rw [hk]; exact h2)]
set_option maxHeartbeats 1000000 in
theorem BY {P:Program} {ρ:Ren} (LL:SlLaysF0.n6 P ρ) {α:Type} {R:Hp→List Nat→List Value→α→Prop} {e sz:Nat} (hR:bQ R) (h1:fm R) (hs:0 < sz)
    (aE:∀ w,(isAgg (ρ.t 24)).run P w = .ok true w) (zE:∀ w,(Go.sizeOf (ρ.t 24)).run P w = .ok sz w)
    {Ψ Φ:Hp} {pv0:Value} {pD0:List Nat} {p1f:Nat} {p1fr:List Value} (w0:av Ψ Φ [ob pv0].flatten) (p0:List α) (cmp:α→α→Option Int) (ph0:OSl R e sz Φ pD0 pv0 p0) (hF:Fun P p1f=true)
    (p1h:∀ {Φ':Hp} {w':World},FrH [ob pv0].flatten Φ Φ'→In Φ' w'→∀ (a b:α) {ca cb:List Value} {Fa Fb:List Nat},R Φ' Fa ca a→R Φ' Fb cb b→∀ {r:Int},cmp a b=some r→Calls P p1f (([.agg ca.toArray,.agg cb.toArray]:List Value)++p1fr).toArray w' (lh (.int .i64 r) w'))
    (pd0:Dj pD0 [ob pv0].flatten) {r:List α} (h:A1 p0 cmp=some r) :
    Calls P (ρ.f 6) #[pv0,.func (.func p1f) #[] p1fr.toArray] w0.w (be Φ w0.w [ob pv0].flatten (fun Φ' Fs v=>∃ Do:List Nat,v = .tuple #[]∧Fs=[ob pv0]∧OSl R e sz Φ' Do pv0 r∧(∀ k∈Do,k∈pD0))):=by
  obtain ⟨hlen,c,hc,hcm,rfl⟩:=Df h
  obtain ⟨cells,Fs,⟨hcl,hform⟩,hrc,hD⟩:=ph0.ex
  have rR:∀ {w':World},w'=w0.w→p0=[]→be Φ w0.w [ob pv0].flatten (fun Φ' Fs v=>∃ Do:List Nat,v = .tuple #[]∧Fs=[ob pv0]∧OSl R e sz Φ' Do pv0 (srt c p0)∧(∀ k∈Do,k∈pD0)) (.returned (.tuple #[])) w':=fun hw h0=>by
    subst hw
    have hsrt:srt c p0=p0:=by rw [h0]; rfl
    exact ⟨_,Φ,[ob pv0],rfl,Chg.refl _ _,w0.fro,fun _ _ _=>rfl,w0.nd,fun k hk=>⟨.inl hk,w0.lt k hk⟩,pD0,rfl,rfl,by rw [hsrt]; exact ph0,fun k hk=>hk⟩
  by_cases hn:p0=[]
  · rcases hform with ⟨rfl,_⟩ | ⟨g,cap,cur,hv,_⟩
    · exact (AnyF.slices_SortFunc_none LL none 0 _ w0.w).mono fun e' w' ⟨he,hw⟩=>by rw [he]; exact rR hw hn
    · have hv':pv0 = .slice (some ⟨g,0,none⟩) 0 cap:=by rw [hv,hn]; rfl
      have:=(AnyF.slices_SortFunc_none LL (some ⟨g,0,none⟩) cap (.func (.func p1f) #[] p1fr.toArray) w0.w).mono (R':=be Φ w0.w [ob pv0].flatten (fun Φ' Fs v=>∃ Do:List Nat,v = .tuple #[]∧Fs=[ob pv0]∧OSl R e sz Φ' Do pv0 (srt c p0)∧(∀ k∈Do,k∈pD0))) fun e' w' ⟨he,hw⟩=>by rw [he]; exact rR hw hn
      rw [← hv'] at this
      exact this
  · have hpos:0 < p0.length:=List.length_pos_iff.2 hn
    rcases hform with ⟨_,h0⟩ | ⟨g,cap,cur,hv,hg,hnc,hcmx,hcs,htake⟩
    · omega
    have hob:[ob pv0].flatten=[g]:=by rw [hv]; rfl
    rw [hob] at p1h pd0
    rw [congrArg (be Φ w0.w) hob]
    have hgw:=w0.fro _ _ hg
    have hgl:=w0.fro.lt hg
    let ix:Nat→Nat:=fun i=>if i < p0.length then i else 0
    have hix:∀ i,ix i < p0.length:=fun i=>by show (if i < p0.length then i else 0) < _; split <;> omega
    let enc:Nat→List Value:=fun i=>(cells.drop (ix i*sz)).take sz
    let key:Nat→α:=fun i=>p0[ix i]'(hix i)
    have hkk:∀ i,(enc i).length=sz:=fun i=>by
      have hle:ix i*sz+sz≤p0.length*sz:=by rw [← Nat.succ_mul]; exact Nat.mul_le_mul_right sz (hix i)
      show ((cells.drop (ix i*sz)).take sz).length=sz
      rw [List.length_take,List.length_drop,hcl]; omega
    have hel:∀ i,R Φ (Fs.getD (ix i) []) (enc i) (key i):=fun i=>hrc.el _ _ (List.getElem?_eq_getElem (hix i))
    have hFd:∀ i,Dj (Fs.getD (ix i) []) [g]:=fun i k hk=>pd0 k (by rw [hD]; exact kP hk)
    let cf:Nat→Nat→Int:=fun i j=>c (key i) (key j)
    have hO:SWO (ltOf cf):=by
      refine ⟨fun x=>?_,fun x y z a b=>?_,fun x y z a b=>?_⟩
      · exact decide_eq_false (hc.irr _)
      · exact decide_eq_true (hc.tr _ _ _ (of_decide_eq_true a) (of_decide_eq_true b))
      · refine decide_eq_false fun a'=>?_
        exact hc.le (of_decide_eq_false b) (of_decide_eq_false a) a'
    have eg:∀ args w,(callFunc p1f args).run P w = .ok (.enter p1f args) w:=fun args w=>qf hF w
    let Φn:Hp:=fun k=>if k=g then none else Φ k
    have hfr:FrH [g] Φ Φn:=fun k o hk ho=>by show (if k=g then none else Φ k)=some o; rw [if_neg (by simpa using hk)]; exact ho
    have hcmp:CmpLays P p1f p1fr.toArray enc sz cf g 0 (Array.range p0.length).size w0.w:=fun m os dk hdk x y=>by
      have hin:In Φn (sortWorldK enc sz w0.w g 0 m dk os):=fun k o hk=>by
        have hk:(if k=g then none else Φ k)=some o:=hk
        split at hk
        · cases hk
        · rename_i hne
          rw [ua enc sz w0.w g m dk os (w0.fro.lt hk) hne]
          exact w0.fro _ _ hk
      have ec : #[Value.agg (enc x).toArray,Value.agg (enc y).toArray]++p1fr.toArray=(([.agg (enc x).toArray,.agg (enc y).toArray]:List Value)++p1fr).toArray:=by simp
      rw [ec]
      exact (p1h hfr hin (key x) (key y) (hR _ _ _ _ _ _ hfr (hFd x) (hel x)) (hR _ _ _ _ _ _ hfr (hFd y) (hel y)) (hcm _ (List.getElem_mem _) _ (List.getElem_mem _))).mono fun e' w' ⟨he,hch⟩=>⟨he,hch.grown⟩
    have hH:HoldsK enc sz w0.w g 0 (Array.range p0.length):=fun j hj=>by
      have hj':j < p0.length*sz:=by simpa using hj
      have hjd:j / sz < p0.length:=by rw [Nat.div_lt_iff_lt_mul hs]; exact hj'
      have hjc:j < cur.size:=by rw [hcs]; exact Nat.lt_of_lt_of_le hj' (Nat.mul_le_mul_right sz hnc)
      have hx:ix (j / sz)=j / sz:=by show (if j / sz < p0.length then j / sz else 0)=_; rw [if_pos hjd]
      have e0:(Array.range p0.length)[j / sz]! = j / sz:=by rw [getElem!_pos (Array.range p0.length) (j / sz) (by simpa using hjd)]; simp
      have e1:(flatK enc sz (Array.range p0.length))[j]! = cur[j]:=by
        rw [get_flatK enc sz _ j (by simpa using hj'),e0]
        have hlt:j % sz < (enc (j / sz)).length:=by rw [hkk]; exact Nat.mod_lt _ hs
        rw [getElem!_pos (enc (j / sz)) (j % sz) hlt]
        show ((cells.drop (ix (j / sz)*sz)).take sz)[j % sz]=_
        rw [List.getElem_take,List.getElem_drop]
        have e2:ix (j / sz)*sz+j % sz=j:=by rw [hx,Nat.mul_comm]; exact Nat.div_add_mod j sz
        have:cells[j]?=some cur[j]:=by
          rw [← htake,List.getElem?_take,if_pos hj',Array.getElem?_toList,Array.getElem?_eq_getElem hjc]
        have h5:cells[ix (j / sz)*sz+j % sz]?=some cur[j]:=by rw [e2]; exact this
        exact (List.getElem?_eq_some_iff.1 h5).2
      refine ⟨?_,?_⟩
      · simp only [World.cell?,hgw,Nat.zero_add]
        rw [e1]
        simp [Array.getElem?_eq_getElem hjc]
      · simp [World.frozen?,hgw]
    have hcon:=AnyQ.slices_SortFunc LL sz aE zE enc hkk (fun i=>h1 _ _ _ _ (hel i)) cf hO p1f p1fr.toArray g 0 cap (Array.range p0.length) w0.w eg hcmp hH hgl (by simp; omega)
    have hv2:pv0 = .slice (some ⟨g,0,none⟩) ((Array.range p0.length).size:Nat) cap:=by rw [Array.size_range]; exact hv
    rw [← hv2] at hcon
    refine hcon.mono fun e' w' ⟨he,d',nn,os,hperm,hsort,hw⟩=>?_
    subst hw
    rw [he]
    obtain ⟨hds,_,hp⟩:=hperm
    rw [Array.size_range] at hds hp hsort
    have hdl:d'.toList.Perm (List.range p0.length):=by
      have a1:(d'.extract 0 p0.length).toList=d'.toList:=by rw [← hds]; simp
      have a2:((Array.range p0.length).extract 0 p0.length).toList=List.range p0.length:=by simp
      rwa [a1,a2] at hp
    have hkey:(List.range p0.length).map key=p0:=List.ext_getElem (by simp) fun i a b=>by
      simp only [List.getElem_map,List.getElem_range]
      show p0[ix i]'(hix i)=p0[i]
      congr 1
      show (if i < p0.length then i else 0)=i
      rw [if_pos b]
    have hr:d'.toList.map key=srt c p0:=by
      refine sS hc ?_ (vF hc _) ?_
      · unfold Srt
        rw [List.pairwise_iff_getElem]
        intro i j hi hj hij
        have hi':i < d'.size:=by simpa using hi
        have hj':j < d'.size:=by simpa using hj
        have:=hsort i j (Nat.zero_le _) hij (by omega)
        rw [getElem!_pos d' i hi',getElem!_pos d' j hj'] at this
        simp only [List.getElem_map,Array.getElem_toList]
        exact of_decide_eq_false this
      · exact (hdl.map key).trans (by rw [hkey]; exact (jU p0).symm)
    have hnew:=Ej enc sz w0.w g nn d' os hgw
    have hch:=He enc sz w0.w g nn d' os
    let Φ':Hp:=fun k=>if k=g then some (.cells (putCells id 0 (flatK enc sz d') cur) e (0,0)) else Φ k
    have hfr':FrH [g] Φ Φ':=fun k o hk ho=>by show (if k=g then _ else Φ k)=some o; rw [if_neg (by simpa using hk)]; exact ho
    have hg':Φ' g=some (.cells (putCells id 0 (flatK enc sz d') cur) e (0,0)):=if_pos rfl
    have hin':In Φ' (sortWorldK enc sz w0.w g 0 nn d' os):=fun k o hk=>by
      have hk:(if k=g then some (.cells (putCells id 0 (flatK enc sz d') cur) e (0,0)) else Φ k)=some o:=hk
      by_cases hkg:k=g
      · rw [if_pos hkg] at hk
        rw [hkg,hnew]; exact hk
      · rw [if_neg hkg] at hk
        rw [ua enc sz w0.w g nn d' os (w0.fro.lt hk) hkg]
        exact w0.fro _ _ hk
    have hlr:(srt c p0).length=p0.length:=(jU p0).length_eq
    have hfl:(flatK enc sz d').size=p0.length*sz:=by rw [size_flatK,hds]
    have hpc:(putCells id 0 (flatK enc sz d') cur).size=cur.size:=by unfold putCells; simp
    have hgood:∀ k∈((d'.toList.map fun i=>Fs.getD (ix i) []).flatten),k∈pD0:=fun k hk=>by
      obtain ⟨F,hF1,hF2⟩:=List.mem_flatten.1 hk
      obtain ⟨i,_,rfl⟩:=List.mem_map.1 hF1
      rw [hD]; exact kP hF2
    refine ⟨_,Φ',[ob pv0],rfl,hch,hin',fun k hk hkg=>if_neg (by simpa using hkg),by rw [hob]; simp,fun k hk=>⟨.inl (by rw [hob] at hk; exact hk),?_⟩,(d'.toList.map fun i=>Fs.getD (ix i) []).flatten,rfl,rfl,⟨fun k hk=>?_,(flatK enc sz d').toList,d'.toList.map fun i=>Fs.getD (ix i) [],⟨by rw [hlr,Array.length_toList,hfl],.inr ⟨g,cap,_,by rw [hlr]; exact hv,hg',by rw [hlr]; exact hnc,hcmx,by rw [hpc]; exact hcs,?_⟩⟩,⟨by rw [hlr,Array.length_toList,hfl],by rw [List.length_map,Array.length_toList,hds,hlr],fun i x hi=>?_⟩,rfl⟩,hgood⟩
    · rw [hob] at hk
      simp only [List.mem_singleton] at hk
      subst hk
      exact Nat.lt_of_lt_of_le hgl hch.size
    · obtain ⟨o,ho⟩:=ph0.kn k (hgood k hk)
      exact ⟨o,hfr' k o (pd0 k (hgood k hk)) ho⟩
    · rw [hlr]
      refine List.ext_getElem? fun i=>?_
      rw [List.getElem?_take]
      split
      · rename_i hi
        have hic:i < cur.size:=by rw [hcs]; exact Nat.lt_of_lt_of_le hi (Nat.mul_le_mul_right sz hnc)
        rw [Array.getElem?_toList,Array.getElem?_toList]
        unfold putCells
        rw [Array.getElem?_mapIdx,Array.getElem?_eq_getElem hic,Array.getElem?_eq_getElem (by rw [hfl]; exact hi)]
        simp only [Option.map_some,Nat.zero_le,true_and,Nat.zero_add,hfl,hi,if_true,Nat.sub_zero,id]
        rw [getElem!_pos _ _ (by rw [hfl]; exact hi)]
      · rename_i hi
        rw [Array.getElem?_toList,Array.getElem?_eq_none (by rw [hfl]; omega)]
    · rw [← hr] at hi
      rw [List.getElem?_map,Option.map_eq_some_iff] at hi
      obtain ⟨q,hq,rfl⟩:=hi
      have hi1:i < d'.size:=by have:=(List.getElem?_eq_some_iff.1 hq).1; simpa using this
      have hq2:d'[i]! = q:=by
        rw [getElem!_pos d' i hi1]
        have:=(List.getElem?_eq_some_iff.1 hq).2
        simpa using this
      rw [AN hkk d' hi1,hq2]
      have e3:(d'.toList.map fun i=>Fs.getD (ix i) []).getD i []=Fs.getD (ix q) []:=by
        rw [List.getD_eq_getElem?_getD,List.getElem?_map,hq]; rfl
      rw [e3]
      exact hR _ _ _ _ _ _ hfr' (hFd q) (hel q)
end Go.Proofs.YtedmfnmbjglmbaaGreat.Eng
