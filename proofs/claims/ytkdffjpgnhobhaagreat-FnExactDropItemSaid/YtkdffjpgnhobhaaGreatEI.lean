/-
  The engine, part I: more laws for the printed texts.
  Nothing here names a program.
-/
import Derived.Test.YtkdffjpgnhobhaaGreatEH
import Derived.Laws.BytesArg
namespace Go.Proofs.YtkdffjpgnhobhaaGreat.Eng
open Go.RowKit (Below wrap64)
set_option linter.unusedVariables false
set_option linter.unusedSimpArgs false

variable {g:G} {k:List Item} {l:Env} {Ψ0 H0:Hp} {B0:List Nat} {w0:ab Ψ0 H0 B0} {Φ Φ':Hp} {O:fv} {L:List (List Nat)} {w w':World} {S:World→Prop} {P:Program}

theorem RC.kn {α:Type} {R:Hp→List Nat→List Value→α→Prop} {sz:Nat} {Fs:List (List Nat)} {cells:List Value} {xs:List α} (hk:d6 R) (h:RC R sz Φ Fs cells xs):Kw Φ Fs.flatten:=fun k hm=>by
  obtain ⟨F,hF,hkF⟩:=List.mem_flatten.1 hm
  obtain ⟨i,hi,rfl⟩:=List.getElem_of_mem hF
  have hx:i < xs.length:=by rw [← h.flen]; exact hi
  have e:=hk _ _ _ _ (h.el i xs[i] (List.getElem?_eq_getElem hx))
  refine e k ?_
  simpa [List.getD_eq_getElem?_getD,List.getElem?_eq_getElem hi] using hkF

theorem pU {α:Type} {z:α} {n:Int} {xs:List α} (h:mk z n=some xs):n≤4294967296:=by
  unfold mk at h; split at h
  · rename_i h1; exact h1.2
  · cases h

def Pl (P:Program) (t:Nat) (ps:Array (Nat × Nat)):Bool:=
  match P.underlying t with
  | some (.struct fs)=>(fs.toList.map fun f=>(f.offset,((P.info? f.type).map (·.size)))) == ps.toList.map (fun p=>(p.1,some p.2))
  | _=>false

theorem wY {P:Program} {w:World}:∀ (fs:List Field) (ps:List (Nat × Nat)),(fs.map fun f=>(f.offset,(P.info? f.type).map (·.size)))=ps.map (fun p=>(p.1,some p.2)) →
    (fs.mapM fun f=>(do pure (f.offset,← sizeOf f.type):Sem (Nat × Nat))).run P w = .ok ps w
  | [],ps,h=>by
    cases ps with
    | nil=>rfl
    | cons p ps=>cases h
  | f :: fs,ps,h=>by
    cases ps with
    | nil=>cases h
    | cons p ps=>
      simp only [List.map_cons,List.cons.injEq,Prod.mk.injEq] at h
      obtain ⟨⟨h1,h2⟩,h3⟩:=h
      cases hti:P.info? f.type with
      | none=>simp [hti] at h2
      | some ti=>
        have h4:ti.size=p.2:=by simpa [hti] using h2
        have ih:=wY (P:=P) (w:=w) fs ps h3
        simp only [List.mapM_cons,Sem.run_bind,sizeOf,typeInfo,run_program,Result.andThen_ok,hti,Sem.run_pure]
        simp only [sizeOf,typeInfo] at ih
        rw [ih]
        simp [h1,h4]

theorem cG {P:Program} {t:Nat} {parts:Array (Nat × Operand)} {ps:Array (Nat × Nat)} {z:Value} {vs:List (Nat × Value)} {C:Array Value} (ht:Pl P t ps=true) (hz:Zr P t z)
    (hv:parts.toList.map (fun p=>(p.1,opv l p.2))=vs.map (fun p=>(p.1,some p.2))) (hC:Instr.fill (ps[·]?) z.cells vs=some C):OpQ P (.build t parts) l S (.agg C):=fun n a w o ho hf hw=>by
  unfold Pl at ht
  split at ht
  · rename_i fs hu
    have ht':=wY (P:=P) (w:=w) fs.toList ps.toList (by simpa using ht)
    unfold Zr at hz
    cases hti:P.info? t with
    | none=>simp [hti] at hz
    | some ti=>
      have hzz:ti.zero=some z:=by simpa [hti] using hz
      have hparts:(parts.map fun (i,x)=>(i,a.eval x)).toList=vs:=by
        simp only [Array.toList_map]
        have key:∀ (qs:List (Nat × Operand)) (us:List (Nat × Value)),qs.map (fun p=>(p.1,opv l p.2))=us.map (fun p=>(p.1,some p.2))→qs.map (fun p=>(p.1,a.eval p.2))=us:=by
          intro qs
          induction qs with
          | nil=>intro us h; cases us with
            | nil=>rfl
            | cons u us=>cases h
          | cons q qs ih=>intro us h; cases us with
            | nil=>cases h
            | cons u us=>
              simp only [List.map_cons,List.cons.injEq,Prod.mk.injEq] at h
              obtain ⟨⟨h1,h2⟩,h3⟩:=h
              simp only [List.map_cons,ih us h3,hf.eval h2,h1]
        exact key _ _ hv
      have hmap:(fs.mapM fun f=>(do pure (f.offset,← sizeOf f.type):Sem (Nat × Nat))).run P w = .ok ps w:=by
        rw [Array.mapM_eq_mapM_toList,Sem.run_map,ht']
        simp
      have hb:(Instr.build t (parts.map fun (i,x)=>(i,a.eval x))).run P w = .ok (.agg C) w:=by
        unfold Instr.build
        simp only [Sem.run_bind,zeroValue,typeInfo,run_program,Result.andThen_ok,hti,hzz,Sem.run_pure,run_underlying hu]
        rw [hmap]
        simp only [Result.andThen_ok,hparts,hC]
        rfl
      unfold execOp
      simp only [ho]
      simp only [Sem.run_bind,hb]; rfl
  · cases ht


theorem tm {A:List Nat} (k:Nat) (h:k∈A++[]):k∈A:=by simpa using h

theorem HSl.hb {α:Type} {R:Hp→List Nat→List Value→α→Prop} {e sz i:Nat} {D:List Nat} {v:Value} {xs:List α} {cs:List Value} (h:HSl R e sz Φ D v xs i cs):sb v∈ob v:=by
  obtain ⟨cells,Fs,g1,g2,g3,g4,g5⟩:=h.ex
  obtain ⟨cap,hv,h0,hb,hr⟩:=g1.at_ (by have:=h.lt; omega)
  rw [hb]; simp

def HM (xs:List Int):ByteArray:=⟨(xs.map fun n=>UInt8.ofNat n.toNat).toArray⟩
theorem Iq0 {src dst e:TypeId} {x:Operand} {v:Value} {F:List Nat} {xs:List Int} {Ψ0 H0:Hp} {B0:List Nat} {w0:ab Ψ0 H0 B0} {Φ:Hp} {O:fv} {L:List (List Nat)} (hs:Sl P src e 1=true) (he:Ik P e .u8=true) (hd:Str P dst=true) (hx:opv l x=some v) (hq:∀ w,St w0 Φ O L w→RSl (RI .u8) 1 Φ F v xs):OpQ P (.convert src dst x) l (St w0 Φ O L) (.string (HM xs)):=fun n a w o ho hf hw=>by
  have h:=hq w hw
  have hu:=va hs
  have hv:P.underlying dst=some .string:=by unfold Str at hd; split at hd <;> simp_all
  obtain ⟨p,c,hp,_⟩:=h.form
  have hrun:(convert src dst v).run P w = .ok (.string (HM xs)) w:=by
    by_cases hne:xs=[]
    · subst hne
      cases p with
      | none=>rw [hp]; exact run_convert_bytes_nil w src e hu (A3 he) _ _ dst hv
      | some ad=>
        obtain ⟨b,of,sp⟩:=ad
        rw [hp]
        rw [run_convert_bytes_string w src dst e _ _ _ hu (A3 he) hv]
        simp [Conv.bytesToString,loadCells,HM]
        rfl
    · obtain ⟨cap,hc⟩:=h.addr hne
      have:=run_convert_bytes_arg (P:=P) w src e hu (A3 he) (sb v) (so v) xs.length cap xs rfl (fun i hi=>by
        obtain ⟨cs,G,h1,h2,_,_,h3⟩:=h.el (List.getElem?_eq_getElem hi)
        obtain ⟨rfl,_⟩:=h3
        have:=rg.rangeAt hw.fro h2 0 _ rfl
        simp [List.getD,List.getElem?_eq_getElem hi]
        simpa using this) dst hv
      have hv':v = .slice (some ⟨sb v,so v,none⟩) xs.length cap:=hc
      rw [← hv'] at this
      exact this
  unfold execOp; simp only [ho,hf.eval hx,Sem.run_bind,hrun]
  rfl
end Go.Proofs.YtkdffjpgnhobhaaGreat.Eng
