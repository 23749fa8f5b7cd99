/-
  The engine, part I: more laws for the printed texts.
  Nothing here names a program.
-/
import Derived.Test.YtedmfnmbjglmbaaGreatEH
import Derived.Laws.BytesArg
namespace Go.Proofs.YtedmfnmbjglmbaaGreat.Eng
open Go.RowKit (Below wrap64)
set_option linter.unusedVariables false
set_option linter.unusedSimpArgs false

variable {g:G} {k:List Item} {l:Env} {Ψ0 H0:Hp} {B0:List Nat} {w0:aD Ψ0 H0 B0} {Φ Φ':Hp} {O:gY} {L:List (List Nat)} {w w':World} {S:World→Prop} {P:Program}

theorem RC.kn {α:Type} {R:Hp→List Nat→List Value→α→Prop} {sz:Nat} {Fs:List (List Nat)} {cells:List Value} {xs:List α} (hk:dv R) (h:RC R sz Φ Fs cells xs):Kw Φ Fs.flatten:=fun k hm=>by
  obtain⟨F,b,c⟩:=List.mem_flatten.1 hm
  obtain⟨i,a,rfl⟩:=List.getElem_of_mem b
  have d:i < xs.length:=by rw[← h.flen];exact a
  have e:=hk _ _ _ _ (h.el i xs[i] (gj d))
  refine e k ?_
  simpa[List.getD_eq_getElem?_getD,gj a] using c

theorem Hd {α:Type} {z:α} {n:Int} {xs:List α} (h:mk z n=some xs):n≤4294967296:=by
  unfold mk at h;split at h
  · rename_i h1;exact h1.2
  · cases h

theorem az.three {c d e:ResultVar} {v1 v2 v3:Value} (h1:xe P c l S v1) (f:xe P d l S v2) (g:xe P e l S v3):az P #[c,d,e] l S (.tuple #[v1,v2,v3]):=fun fn n a w k b hw=>by
  cases c <;> cases d <;> cases e <;>
  (first | obtain⟨t,m,o⟩:=h1 | skip) <;> (first | obtain⟨a2,p,q⟩:=f | skip) <;> (first | obtain⟨a3,r,s⟩:=g | skip) <;>
  (first | have h:=b.at_ _ _ m | have h:=b.at_ _ _ h1) <;> (first | have i:=b.at_ _ _ p | have i:=b.at_ _ _ f) <;> (first | have j:=b.at_ _ _ r | have j:=b.at_ _ _ g) <;>
  (first | have f1:=o w hw | have f1:=hw) <;> (first | have f2:=q w hw | have f2:=hw) <;> (first | have f3:=s w hw | have f3:=hw) <;>
  simp[results,k,asAddr,h,i,j,f1,f2,f3]

def Pl (P:Program) (t:Nat) (ps:Array (Nat × Nat)):Bool:=
  match P.underlying t with
  | some (.struct a)=>(a.toList.map fun f=>(f.offset,((P.info? f.type).map (·.size)))) == ps.toList.map (fun p=>(p.1,some p.2))
  | _=>false

theorem wJ {P:Program} {w:World}:∀ (a:List Field) (ps:List (Nat × Nat)),(a.map fun f=>(f.offset,(P.info? f.type).map (·.size)))=ps.map (fun p=>(p.1,some p.2)) →
    (a.mapM fun f=>(do pure (f.offset,← sizeOf f.type):Sem (Nat × Nat))).run P w = .ok ps w
  | [],ps,h=>by
    cases ps with
    | nil=>rfl
    | cons p ps=>cases h
  | f :: a,ps,h=>by
    cases ps with
    | nil=>cases h
    | cons p ps=>
      simp only[hN,List.cons.injEq,Prod.mk.injEq] at h
      obtain⟨⟨h1,c⟩,h3⟩:=h
      cases b:P.info? f.type with
      | none=>simp[b] at c
      | some e=>
        have g:e.size=p.2:=by simpa[b] using c
        have d:=wJ (P:=P) (w:=w) a ps h3
        simp only[List.mapM_cons,Sem.run_bind,sizeOf,typeInfo,run_program,Result.andThen_ok,b,Sem.run_pure]
        simp only[sizeOf,typeInfo] at d
        rw[d]
        simp[h1,g]

theorem bu {P:Program} {t:Nat} {parts:Array (Nat × Operand)} {ps:Array (Nat × Nat)} {z:Value} {vs:List (Nat × Value)} {C:Array Value} (c:Pl P t ps=true) (d:Zr P t z)
    (j:parts.toList.map (fun p=>(p.1,opv l p.2))=vs.map (fun p=>(p.1,some p.2))) (k:Instr.fill (ps[·]?) z.cells vs=some C):OpQ P (.build t parts) l S (.agg C):=fun n a w o m r hw=>by
  unfold Pl at c
  split at c
  · rename_i g hu
    have s:=wJ (P:=P) (w:=w) g.toList ps.toList (by simpa using c)
    unfold Zr at d
    cases e:P.info? t with
    | none=>simp[e] at d
    | some v=>
      have y:v.zero=some z:=by simpa[e] using d
      have A:(parts.map fun(i,x)=>(i,a.eval x)).toList=vs:=by
        simp only[Array.toList_map]
        have key:∀ (b:List (Nat × Operand)) (us:List (Nat × Value)),b.map (fun p=>(p.1,opv l p.2))=us.map (fun p=>(p.1,some p.2))→b.map (fun p=>(p.1,a.eval p.2))=us:=by
          intro b
          induction b with
          | nil=>intro us h;cases us with
            | nil=>rfl
            | cons u us=>cases h
          | cons q b B=>intro us h;cases us with
            | nil=>cases h
            | cons u us=>
              simp only[hN,List.cons.injEq,Prod.mk.injEq] at h
              obtain⟨⟨h1,D⟩,h3⟩:=h
              simp only[hN,B us h3,r.eval D,h1]
        exact key _ _ j
      have E:(g.mapM fun f=>(do pure (f.offset,← sizeOf f.type):Sem (Nat × Nat))).run P w = .ok ps w:=by
        rw[Array.mapM_eq_mapM_toList,Sem.run_map,s]
        simp
      have F:(Instr.build t (parts.map fun(i,x)=>(i,a.eval x))).run P w = .ok (.agg C) w:=by
        unfold Instr.build
        simp only[Sem.run_bind,zeroValue,typeInfo,run_program,Result.andThen_ok,e,y,Sem.run_pure,run_underlying hu]
        rw[E]
        simp only[Result.andThen_ok,A,k]
        rfl
      unfold execOp
      simp only[m]
      simp only[Sem.run_bind,F];rfl
  · cases c


theorem rW {A:List Nat} (k:Nat) (h:k∈A++[]):k∈A:=by simpa using h

theorem HSl.hb {α:Type} {R:Hp→List Nat→List Value→α→Prop} {e sz i:Nat} {D:List Nat} {v:Value} {xs:List α} {cs:List Value} (h:HSl R e sz Φ D v xs i cs):sb v∈ob v:=by
  obtain⟨cells,Fs,g1,g2,g3,g4,g5⟩:=h.ex
  obtain⟨cap,b,c,a,d⟩:=g1.at_ (by have:=h.lt;omega)
  rw[a];simp

theorem mv {ops:Array Oper} {c:Nat→Bool} {fuel:Nat} {done:List Nat} {b:World→Prop} {o:Oper} {d i:Nat} {v:Value} (j:ops[i]?=some o) (m:c i=true→∀ w,b w→S w) (n:OpQ g.P o.op l b v) (e:dq o g.n=some d)
    (h:WM g k ops S c fuel (i :: done) ((d,v) :: l) b):WI g k ops S c fuel done i l b:=WI.of i j (c8 e).1 fun a w f hw=>by
  have p:=n g.n a w o rfl f hw
  unfold Oper.wp
  rw[p,Oper.upon_value,(c8 e).2.1]
  exact⟨fun hk=>m hk w hw,by rw[fY];exact h _ _ (f.put (c8 e).2.2 v) hw⟩

theorem WL.cutS {ops:Array Oper} {rest:List Oper} {σ:Type} (n:Nat) (env:σ→Env) (T:σ→World→Prop) (M:σ→Prop) (hk:∀ s,M s→WL g k ops (rest.drop n) (env s) (T s)) (a:(∀ s,M s→WL g k ops (rest.drop n) (env s) (T s))→WL g k ops rest l S):WL g k ops rest l S:=a hk

end Go.Proofs.YtedmfnmbjglmbaaGreat.Eng
