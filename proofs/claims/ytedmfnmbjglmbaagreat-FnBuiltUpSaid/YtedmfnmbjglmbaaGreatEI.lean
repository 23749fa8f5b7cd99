/-
  The engine, part I: more laws for the printed texts.
  Nothing here names a program.
-/
import Derived.Test.YtedmfnmbjglmbaaGreatEH
import Derived.Laws.BytesArg
namespace Go.Proofs.YtedmfnmbjglmbaaGreat.Eng
open Go.RowKit (Below wrap64)
set_option linter.unusedVariables false
set_option linter.unusedSimpArgs false

variable {g:G} {k:List Item} {l:Env} {Ψ0 H0:Hp} {B0:List Nat} {w0:av Ψ0 H0 B0} {Φ Φ':Hp} {O:fT} {L:List (List Nat)} {w w':World} {S:World→Prop} {P:Program}

theorem RC.kn {α:Type} {R:Hp→List Nat→List Value→α→Prop} {sz:Nat} {Fs:List (List Nat)} {cells:List Value} {xs:List α} (hk:cW R) (h:RC R sz Φ Fs cells xs):Kw Φ Fs.flatten:=fun k hm=>by
  obtain ⟨F,hF,hkF⟩:=List.mem_flatten.1 hm
  obtain ⟨i,hi,rfl⟩:=List.getElem_of_mem hF
  have hx:i < xs.length:=by rw [← h.flen]; exact hi
  have e:=hk _ _ _ _ (h.el i xs[i] (List.getElem?_eq_getElem hx))
  refine e k ?_
  simpa [List.getD_eq_getElem?_getD,List.getElem?_eq_getElem hi] using hkF

theorem I2 {α:Type} {z:α} {n:Int} {xs:List α} (h:mk z n=some xs):n≤4294967296:=by
  unfold mk at h; split at h
  · rename_i h1; exact h1.2
  · cases h

def Pl (P:Program) (t:Nat) (ps:Array (Nat × Nat)):Bool:=
  match P.underlying t with
  | some (.struct fs)=>(fs.toList.map fun f=>(f.offset,((P.info? f.type).map (·.size)))) == ps.toList.map (fun p=>(p.1,some p.2))
  | _=>false

theorem vg {P:Program} {w:World}:∀ (fs:List Field) (ps:List (Nat × Nat)),(fs.map fun f=>(f.offset,(P.info? f.type).map (·.size)))=ps.map (fun p=>(p.1,some p.2)) →
    (fs.mapM fun f=>(do pure (f.offset,← sizeOf f.type):Sem (Nat × Nat))).run P w = .ok ps w
  | [],ps,h=>by
    cases ps with
    | nil=>rfl
    | cons p ps=>cases h
  | f :: fs,ps,h=>by
    cases ps with
    | nil=>cases h
    | cons p ps=>
      simp only [List.map_cons,List.cons.injEq,Prod.mk.injEq] at h
      obtain ⟨⟨h1,h2⟩,h3⟩:=h
      cases hti:P.info? f.type with
      | none=>simp [hti] at h2
      | some ti=>
        have h4:ti.size=p.2:=by simpa [hti] using h2
        have ih:=vg (P:=P) (w:=w) fs ps h3
        simp only [List.mapM_cons,Sem.run_bind,sizeOf,typeInfo,run_program,Result.andThen_ok,hti,Sem.run_pure]
        simp only [sizeOf,typeInfo] at ih
        rw [ih]
        simp [h1,h4]

theorem bz {P:Program} {t:Nat} {parts:Array (Nat × Operand)} {ps:Array (Nat × Nat)} {z:Value} {vs:List (Nat × Value)} {C:Array Value} (ht:Pl P t ps=true) (hz:Zr P t z)
    (hv:parts.toList.map (fun p=>(p.1,opv l p.2))=vs.map (fun p=>(p.1,some p.2))) (hC:Instr.fill (ps[·]?) z.cells vs=some C):OpQ P (.build t parts) l S (.agg C):=fun n a w o ho hf hw=>by
  unfold Pl at ht
  split at ht
  · rename_i fs hu
    have ht':=vg (P:=P) (w:=w) fs.toList ps.toList (by simpa using ht)
    unfold Zr at hz
    cases hti:P.info? t with
    | none=>simp [hti] at hz
    | some ti=>
      have hzz:ti.zero=some z:=by simpa [hti] using hz
      have hparts:(parts.map fun (i,x)=>(i,a.eval x)).toList=vs:=by
        simp only [Array.toList_map]
        have key:∀ (qs:List (Nat × Operand)) (us:List (Nat × Value)),qs.map (fun p=>(p.1,opv l p.2))=us.map (fun p=>(p.1,some p.2))→qs.map (fun p=>(p.1,a.eval p.2))=us:=by
          intro qs
          induction qs with
          | nil=>intro us h; cases us with
            | nil=>rfl
            | cons u us=>cases h
          | cons q qs ih=>intro us h; cases us with
            | nil=>cases h
            | cons u us=>
              simp only [List.map_cons,List.cons.injEq,Prod.mk.injEq] at h
              obtain ⟨⟨h1,h2⟩,h3⟩:=h
              simp only [List.map_cons,ih us h3,hf.eval h2,h1]
        exact key _ _ hv
      have hmap:(fs.mapM fun f=>(do pure (f.offset,← sizeOf f.type):Sem (Nat × Nat))).run P w = .ok ps w:=by
        rw [Array.mapM_eq_mapM_toList,Sem.run_map,ht']
        simp
      have hb:(Instr.build t (parts.map fun (i,x)=>(i,a.eval x))).run P w = .ok (.agg C) w:=by
        unfold Instr.build
        simp only [Sem.run_bind,zeroValue,typeInfo,run_program,Result.andThen_ok,hti,hzz,Sem.run_pure,run_underlying hu]
        rw [hmap]
        simp only [Result.andThen_ok,hparts,hC]
        rfl
      unfold execOp
      simp only [ho]
      simp only [Sem.run_bind,hb]; rfl
  · cases ht


theorem zV {A:List Nat} (k:Nat) (h:k∈A++[]):k∈A:=by simpa using h

theorem HSl.hb {α:Type} {R:Hp→List Nat→List Value→α→Prop} {e sz i:Nat} {D:List Nat} {v:Value} {xs:List α} {cs:List Value} (h:HSl R e sz Φ D v xs i cs):sb v∈ob v:=by
  obtain ⟨cells,Fs,g1,g2,g3,g4,g5⟩:=h.ex
  obtain ⟨cap,hv,h0,hb,hr⟩:=g1.at_ (by have:=h.lt; omega)
  rw [hb]; simp

theorem mv {ops:Array Oper} {kp:Nat→Bool} {fuel:Nat} {done:List Nat} {Sw:World→Prop} {o:Oper} {d i:Nat} {v:Value} (hi:ops[i]?=some o) (hkeep:kp i=true→∀ w,Sw w→S w) (hop:OpQ g.P o.op l Sw v) (hd:dq o g.n=some d)
    (h:WM g k ops S kp fuel (i :: done) ((d,v) :: l) Sw):WI g k ops S kp fuel done i l Sw:=WI.of i hi (bO hd).1 fun a w hf hw=>by
  have hr:=hop g.n a w o rfl hf hw
  unfold Oper.wp
  rw [hr,Oper.upon_value,(bO hd).2.1]
  exact ⟨fun hk=>hkeep hk w hw,by rw [eU]; exact h _ _ (hf.put (bO hd).2.2 v) hw⟩

theorem WL.cutS {ops:Array Oper} {rest:List Oper} {σ:Type} (n:Nat) (env:σ→Env) (T:σ→World→Prop) (M:σ→Prop) (hk:∀ s,M s→WL g k ops (rest.drop n) (env s) (T s)) (hc:(∀ s,M s→WL g k ops (rest.drop n) (env s) (T s))→WL g k ops rest l S):WL g k ops rest l S:=hc hk

end Go.Proofs.YtedmfnmbjglmbaaGreat.Eng
