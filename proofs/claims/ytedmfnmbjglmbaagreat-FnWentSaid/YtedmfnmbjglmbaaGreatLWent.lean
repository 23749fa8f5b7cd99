/- The law FnWent: its arguments as data, and the step to the given row. The walk and the plain law come from the texts that are imported. -/
import Derived.Test.YtedmfnmbjglmbaaGreatRows
import Derived.Test.YtedmfnmbjglmbaaGreatEG
import Derived.Test.YtedmfnmbjglmbaaGreatWWentWalk
import Derived.Test.YtedmfnmbjglmbaaGreatTWentc
import Derived.OpenShut
import Derived.LaidLaws
import Derived.Handed
import Derived.Lib.LaidTab
import Derived.ShutString
import Derived.ChangeOld
namespace Go.Proofs.YtedmfnmbjglmbaaGreat.fnWent
open Eng
open Go.ChangeShapes Go.WideShapes Go.ChangeAt Go.RowKit
open Go.ChangeMaps (open_string shut_string)
set_option linter.unusedVariables false
set_option linter.unusedSimpArgs false
theorem Om:Tryz.prog.underlying 5=some (.int .u8):=OU
theorem Di:Sl Tryz.prog 22 5 1=true:=OU
theorem own:ownKnob Tryz.prog.godebug=none:=OU
theorem Jy:laidOutB Tryz.prog=true:=OU
set_option maxRecDepth 100000 in
theorem lifted (os:Os) (started:os.Started) (H:Type) (enc:TypeId × Value→H) :
    ReturnsInHanded {} Tryz.checked os 5 .any (Rows.fnWentSpec.pre6 enc Tryz.prog Tryz.f5 Rows.fnWentRow.domain false) (Rows.fnWentSpec.post enc Tryz.prog Tryz.f5 false true false false):=by
  refine returnsInHanded_of_change (C:=Tryz.checked) own started OU Tryz.func5
    (ChangeSpec.witness6 (enc:=enc) (C:=Tryz.checked) false ⟨#[],#[.slice none 0 0],[]⟩ 8 OU OU OU OU) ?_
  intro W base args l gs before a b B _
  have c:∀ (j:Nat) t v,Tryz.f5.params[j]?=some t→args[j]?=some v→Value.okWide Tryz.prog W .any base t v:=a
  have n:=b
  obtain⟨p,q,d,o,rfl,D,E⟩:=b
  have f:DataW.TrodAll enc Tryz.prog W 0 (fun _=>true) true Tryz.f5.params.toList args.toList l p:=d
  rw[Tryz.params5] at f c
  obtain⟨v0,F,d0,G,r,g,I,rfl,rfl,i,s⟩:=trodAll_cons f
  obtain⟨rfl,rfl,rfl⟩:=trodAll_nil s
  obtain rfl:args = #[v0]:=by cases args;simp_all
  obtain⟨rfl,rfl⟩:=trodVars_none o
  have k:=i
  have u:∀ x∈r,x.block < W.heap.size:=by obtain⟨m,hm⟩:=k;exact DataW.trod_lt m _ _ _ hm
  obtain⟨m0,w⟩:=i
  obtain⟨K,y,z,-,w0⟩:=(Ir Di (Ma Om) rfl) _ _ _ _ _ _ _ w
  obtain⟨a0,L,M,rfl⟩:=okWide_slice (vk Di) (c 0 22 v0 rfl rfl)
  obtain⟨N,A,g⟩:=z
  obtain rfl:=HL A
  clear d a
  refine (Aa 1099511627776 (ba (Nh W)) y g (law w0)).mono fun e O ⟨he,bel⟩=>?_
  subst he
  replace bel:=bel.toBelow
  exact⟨_,rfl,_,_,_,[],_,[],n,trodAll_mk1 (shut_bool (by kernel_rfl:Tryz.prog.underlying 4=some .bool) _),(trodAll_cons_mk (Below.trod Jy OU (of_decide_eq_true OU) k bel u) trodAll_mk0),rfl,bel.frame _,fun h=>by cases h⟩
theorem named:Tryz.pinned.checked.prog.funcNamed Rows.fnWentRow.func=some 5:=OU
theorem ml {a b:Bool} (c:a=true) (d:b=true):(a && b)=true:=by rw[c,d];rfl
theorem cl0:(Rows.fnWentRow.wf (OpenSpec.ofChange Rows.fnWentSpec))=true:=OU
theorem cl1:(laidOutB Tryz.pinned.checked.prog)=true:=OU
theorem cl2:(mapsRowed Tryz.pinned.checked.prog)=true:=OU
theorem cl3:(Tryz.f5.params.all (Tryz.pinned.checked.prog.readableRec ·))=true:=OU
theorem cl4:(namedTie Tryz.pinned.checked.prog Rows.fnWentRow.named Rows.fnWentSpec.vars)=true:=OU
theorem cl5:((Rows.fnWentRow.stops == []))=true:=OU
theorem cl6:((Tryz.pinned.checked.prog.stops == []))=true:=OU
theorem cl7:((Rows.fnWentRow.knobs == []))=true:=OU
theorem cl8:((Tryz.pinned.checked.prog.stopKnobs == []))=true:=OU
theorem cl9:((Rows.fnWentRow.inPlace == Tryz.pinned.checked.prog.inPlace 5))=true:=OU
theorem Ot:((Rows.fnWentRow.unfollowed == Tryz.pinned.checked.prog.unfollowed 5))=true:=OU
theorem O9:((Rows.fnWentRow.recurses == Tryz.pinned.checked.prog.recurses 5))=true:=OU
theorem Oi:((Rows.fnWentRow.named == Tryz.pinned.checked.prog.varsNamed 5))=true:=OU
theorem Oa:((Rows.fnWentRow.maps == (Tryz.f5.params.toList++Rows.fnWentSpec.plain.varTypes Tryz.pinned.checked.prog).any (Tryz.pinned.checked.prog.mapsRec ·)))=true:=OU
theorem On:((Rows.fnWentRow.ifaces == (Tryz.f5.params.toList++Rows.fnWentSpec.plain.varTypes Tryz.pinned.checked.prog).any (Tryz.pinned.checked.prog.ifacesRec ·)))=true:=OU
theorem Ou:((Rows.fnWentRow.mapsOut == Tryz.pinned.checked.prog.mapsAmong Tryz.f5.resultTypes.toList))=true:=OU
theorem Oo:((Rows.fnWentRow.loops == (Tryz.f5.params.toList++Rows.fnWentSpec.plain.varTypes Tryz.pinned.checked.prog).any (Tryz.pinned.checked.prog.loopsFrom ·)))=true:=OU
theorem Oy:((Rows.fnWentRow.wideKeys == (Tryz.f5.params.toList++Rows.fnWentSpec.plain.varTypes Tryz.pinned.checked.prog++Tryz.f5.resultTypes.toList).any (Tryz.pinned.checked.prog.wideKeysFrom ·)))=true:=OU
theorem Of:(Rows.fnWentSpec.vars.all (Tryz.pinned.checked.prog.varReadable ·))=true:=OU
theorem Oh:(Tryz.f5.resultTypes.all (fun t=>Tryz.pinned.checked.prog.readableRec t && decide (t < Tryz.pinned.checked.prog.types.size)))=true:=OU
theorem OA:((Rows.fnWentRow.ifacesOut == Tryz.f5.resultTypes.toList.any (Tryz.pinned.checked.prog.ifacesRec ·)))=true:=OU
theorem OT:((Rows.fnWentRow.loopsOut == Tryz.f5.resultTypes.toList.any (Tryz.pinned.checked.prog.loopsFrom ·)))=true:=OU
theorem Od:((Rows.fnWentRow.plainKeys == Tryz.pinned.checked.prog.plainKeys))=true:=OU
theorem OH:(Rows.fnWentRow.shortTexts.isNone)=true:=OU
theorem OD:(Tryz.pinned.checked.prog.stopsHeard)=true:=OU
theorem Oe:(Tryz.pinned.checked.prog.mayEnter)=true:=OU
theorem OP:((Rows.fnWentRow.lifted == Tryz.pinned.checked.prog.liftsFinal))=true:=OU
theorem Oq:((Tryz.pinned.checked.prog.make == some Rows.fnWentRow.make))=true:=OU
theorem OO:((Rows.fnWentRow.kinds == (if Rows.fnWentRow.domain.isEmpty then [] else Tryz.f5.params.toList.map fun t=>match Tryz.pinned.checked.prog.underlying t with | some (.int k)=>some k | _=>none)))=true:=OU
theorem Ob:((Rows.fnWentRow.pinned == Rows.fnWentRow.pinnedBy))=true:=OU
theorem O8:((Rows.fnWentRow.veiled == (Tryz.f5.params.toList++Rows.fnWentSpec.plain.varTypes Tryz.pinned.checked.prog++Tryz.f5.resultTypes.toList).any (Tryz.pinned.checked.prog.veiledRec ·)))=true:=OU
theorem OQ:(Rows.fnWentRow.veiledFits Tryz.pinned.checked.prog Tryz.f5.params.toList (Tryz.f5.params.toList++Rows.fnWentSpec.plain.varTypes Tryz.pinned.checked.prog++Tryz.f5.resultTypes.toList))=true:=OU
set_option maxRecDepth 100000 in
theorem MG:joinedFacts Tryz.pinned.checked.prog 5 Tryz.f5 Rows.fnWentSpec Rows.fnWentRow=true:=by
  unfold joinedFacts
  exact (ml (ml (ml (ml (ml (ml (ml (ml (ml (ml (ml (ml (ml (ml (ml (ml (ml (ml (ml (ml (ml (ml (ml (ml (ml (ml (ml (ml (ml (ml (ml cl0 cl1) cl2) cl3) cl4) cl5) cl6) cl7) cl8) cl9) Ot) O9) Oi) Oa) On) Ou) Oo) Oy) Of) Oh) OA) OT) Od) OH) OD) Oe) OP) Oq) OO) Ob) O8) OQ)
theorem inst:Tryz.f5.isInstance Tryz.pinned.checked.prog Rows.fnWentRow.origin Rows.fnWentRow.targs:=of_decide_eq_true OU
theorem KN:Tryz.f5.isWrapper Tryz.pinned.checked.prog Rows.fnWentRow.wrapper Rows.fnWentRow.mainSum:=by unfold Func.isWrapper;first | (rw[if_pos (by decide +kernel)];kernel_rfl) | (rw[if_neg (by decide +kernel)];exact⟨rfl,rfl⟩)
theorem Ov:Rows.fnWentRow.holds Tryz.pinned (OpenSpec.ofChange Rows.fnWentSpec):=
  OpenClaim.holds_of_wide 5 Tryz.f5 rfl rfl rfl rfl rfl rfl rfl ⟨rfl,rfl,rfl,rfl,rfl⟩ rfl rfl rfl rfl rfl named Tryz.func5 MG inst KN
    (fun os started H enc _=>lifted os started H enc)
theorem proved:Rows.FnWentSaid:=Ov
#print axioms proved
end Go.Proofs.YtedmfnmbjglmbaaGreat.fnWent
