/- The law FnCame: its arguments as data, and the step to the given row. The walk and the plain law come from the texts that are imported. -/
import Derived.Test.YtedmfnmbjglmbaaGreatRows
import Derived.Test.YtedmfnmbjglmbaaGreatEG
import Derived.Test.YtedmfnmbjglmbaaGreatWCameWalk
import Derived.Test.YtedmfnmbjglmbaaGreatTCamec
import Derived.OpenShut
import Derived.LaidLaws
import Derived.Handed
import Derived.Lib.LaidTab
import Derived.ShutString
import Derived.ChangeOld
namespace Go.Proofs.YtedmfnmbjglmbaaGreat.fnCame
open Eng
open Go.ChangeShapes Go.WideShapes Go.ChangeAt Go.RowKit
open Go.ChangeMaps (open_string shut_string)
set_option linter.unusedVariables false
set_option linter.unusedSimpArgs false

theorem NK:Tryz.prog.underlying 5=some (.int .u8):=NQ
theorem Cy:Sl Tryz.prog 22 5 1=true:=NQ
theorem own:ownKnob Tryz.prog.godebug=none:=NQ
theorem JN:laidOutB Tryz.prog=true:=NQ
set_option maxRecDepth 100000 in
theorem lifted (os:Os) (started:os.Started) (H:Type) (enc:TypeId × Value→H) :
    ReturnsInHanded {} Tryz.checked os 4 .any (Rows.fnCameSpec.pre6 enc Tryz.prog Tryz.f4 Rows.fnCameRow.domain false) (Rows.fnCameSpec.post enc Tryz.prog Tryz.f4 false true false false):=by
  refine returnsInHanded_of_change (C:=Tryz.checked) own started NQ Tryz.func4
    (ChangeSpec.witness6 (enc:=enc) (C:=Tryz.checked) false ⟨#[],#[.slice none 0 0],[]⟩ 8 NQ NQ NQ NQ) ?_
  intro W base args l gs before a b B _
  have c:∀ (j:Nat) t v,Tryz.f4.params[j]?=some t→args[j]?=some v→Value.okWide Tryz.prog W .any base t v:=a
  have n:=b
  obtain⟨p,q,d,o,rfl,D,E⟩:=b
  have f:DataW.TrodAll enc Tryz.prog W 0 (fun _=>true) true Tryz.f4.params.toList args.toList l p:=d
  rw[Tryz.params4] at f c
  obtain⟨v0,F,d0,G,r,g,I,rfl,rfl,i,s⟩:=trodAll_cons f
  obtain⟨rfl,rfl,rfl⟩:=trodAll_nil s
  obtain rfl:args = #[v0]:=by cases args;simp_all
  obtain⟨rfl,rfl⟩:=trodVars_none o
  have k:=i
  have u:∀ x∈r,x.block < W.heap.size:=by obtain⟨m,hm⟩:=k;exact DataW.trod_lt m _ _ _ hm
  obtain⟨m0,w⟩:=i
  obtain⟨K,y,z,-,w0⟩:=(GM Cy (L0 NK) rfl) _ _ _ _ _ _ _ w
  obtain⟨a0,L,M,rfl⟩:=okWide_slice (w7 Cy) (c 0 22 v0 rfl rfl)
  obtain⟨N,A,g⟩:=z
  obtain rfl:=Il A
  clear d a
  refine (zH 1099511627776 (ba (MH W)) y g (law w0)).mono fun e O ⟨he,bel⟩=>?_
  subst he
  replace bel:=bel.toBelow
  exact⟨_,rfl,_,_,_,[],_,[],n,trodAll_mk1 (shut_bool (by kernel_rfl:Tryz.prog.underlying 4=some .bool) _),(trodAll_cons_mk (Below.trod JN NQ (of_decide_eq_true NQ) k bel u) trodAll_mk0),rfl,bel.frame _,fun h=>by cases h⟩

theorem named:Tryz.pinned.checked.prog.funcNamed Rows.fnCameRow.func=some 4:=NQ
theorem lL {a b:Bool} (c:a=true) (d:b=true):(a && b)=true:=by rw[c,d];rfl
theorem cl0:(Rows.fnCameRow.wf (OpenSpec.ofChange Rows.fnCameSpec))=true:=NQ
theorem cl1:(laidOutB Tryz.pinned.checked.prog)=true:=NQ
theorem cl2:(mapsRowed Tryz.pinned.checked.prog)=true:=NQ
theorem cl3:(Tryz.f4.params.all (Tryz.pinned.checked.prog.readableRec ·))=true:=NQ
theorem cl4:(namedTie Tryz.pinned.checked.prog Rows.fnCameRow.named Rows.fnCameSpec.vars)=true:=NQ
theorem cl5:((Rows.fnCameRow.stops == []))=true:=NQ
theorem cl6:((Tryz.pinned.checked.prog.stops == []))=true:=NQ
theorem cl7:((Rows.fnCameRow.knobs == []))=true:=NQ
theorem cl8:((Tryz.pinned.checked.prog.stopKnobs == []))=true:=NQ
theorem cl9:((Rows.fnCameRow.inPlace == Tryz.pinned.checked.prog.inPlace 4))=true:=NQ
theorem NA:((Rows.fnCameRow.unfollowed == Tryz.pinned.checked.prog.unfollowed 4))=true:=NQ
theorem Nc:((Rows.fnCameRow.recurses == Tryz.pinned.checked.prog.recurses 4))=true:=NQ
theorem NJ:((Rows.fnCameRow.named == Tryz.pinned.checked.prog.varsNamed 4))=true:=NQ
theorem Nh:((Rows.fnCameRow.maps == (Tryz.f4.params.toList++Rows.fnCameSpec.plain.varTypes Tryz.pinned.checked.prog).any (Tryz.pinned.checked.prog.mapsRec ·)))=true:=NQ
theorem Nf:((Rows.fnCameRow.ifaces == (Tryz.f4.params.toList++Rows.fnCameSpec.plain.varTypes Tryz.pinned.checked.prog).any (Tryz.pinned.checked.prog.ifacesRec ·)))=true:=NQ
theorem Nd:((Rows.fnCameRow.mapsOut == Tryz.pinned.checked.prog.mapsAmong Tryz.f4.resultTypes.toList))=true:=NQ
theorem NI:((Rows.fnCameRow.loops == (Tryz.f4.params.toList++Rows.fnCameSpec.plain.varTypes Tryz.pinned.checked.prog).any (Tryz.pinned.checked.prog.loopsFrom ·)))=true:=NQ
theorem Nb:((Rows.fnCameRow.wideKeys == (Tryz.f4.params.toList++Rows.fnCameSpec.plain.varTypes Tryz.pinned.checked.prog++Tryz.f4.resultTypes.toList).any (Tryz.pinned.checked.prog.wideKeysFrom ·)))=true:=NQ
theorem N9:(Rows.fnCameSpec.vars.all (Tryz.pinned.checked.prog.varReadable ·))=true:=NQ
theorem NN:(Tryz.f4.resultTypes.all (fun t=>Tryz.pinned.checked.prog.readableRec t && decide (t < Tryz.pinned.checked.prog.types.size)))=true:=NQ
theorem Ni:((Rows.fnCameRow.ifacesOut == Tryz.f4.resultTypes.toList.any (Tryz.pinned.checked.prog.ifacesRec ·)))=true:=NQ
theorem Nv:((Rows.fnCameRow.loopsOut == Tryz.f4.resultTypes.toList.any (Tryz.pinned.checked.prog.loopsFrom ·)))=true:=NQ
theorem NH:((Rows.fnCameRow.plainKeys == Tryz.pinned.checked.prog.plainKeys))=true:=NQ
theorem Np:(Rows.fnCameRow.shortTexts.isNone)=true:=NQ
theorem Nt:(Tryz.pinned.checked.prog.stopsHeard)=true:=NQ
theorem Nm:(Tryz.pinned.checked.prog.mayEnter)=true:=NQ
theorem Nz:((Rows.fnCameRow.lifted == Tryz.pinned.checked.prog.liftsFinal))=true:=NQ
theorem NG:((Tryz.pinned.checked.prog.make == some Rows.fnCameRow.make))=true:=NQ
theorem NM:((Rows.fnCameRow.kinds == (if Rows.fnCameRow.domain.isEmpty then [] else Tryz.f4.params.toList.map fun t=>match Tryz.pinned.checked.prog.underlying t with | some (.int k)=>some k | _=>none)))=true:=NQ
theorem Ns:((Rows.fnCameRow.pinned == Rows.fnCameRow.pinnedBy))=true:=NQ
theorem Nn:((Rows.fnCameRow.veiled == (Tryz.f4.params.toList++Rows.fnCameSpec.plain.varTypes Tryz.pinned.checked.prog++Tryz.f4.resultTypes.toList).any (Tryz.pinned.checked.prog.veiledRec ·)))=true:=NQ
theorem Na:(Rows.fnCameRow.veiledFits Tryz.pinned.checked.prog Tryz.f4.params.toList (Tryz.f4.params.toList++Rows.fnCameSpec.plain.varTypes Tryz.pinned.checked.prog++Tryz.f4.resultTypes.toList))=true:=NQ
set_option maxRecDepth 100000 in
theorem Lw:joinedFacts Tryz.pinned.checked.prog 4 Tryz.f4 Rows.fnCameSpec Rows.fnCameRow=true:=by
  unfold joinedFacts
  exact (lL (lL (lL (lL (lL (lL (lL (lL (lL (lL (lL (lL (lL (lL (lL (lL (lL (lL (lL (lL (lL (lL (lL (lL (lL (lL (lL (lL (lL (lL (lL cl0 cl1) cl2) cl3) cl4) cl5) cl6) cl7) cl8) cl9) NA) Nc) NJ) Nh) Nf) Nd) NI) Nb) N9) NN) Ni) Nv) NH) Np) Nt) Nm) Nz) NG) NM) Ns) Nn) Na)
theorem inst:Tryz.f4.isInstance Tryz.pinned.checked.prog Rows.fnCameRow.origin Rows.fnCameRow.targs:=of_decide_eq_true NQ
theorem IV:Tryz.f4.isWrapper Tryz.pinned.checked.prog Rows.fnCameRow.wrapper Rows.fnCameRow.mainSum:=by unfold Func.isWrapper;first | (rw[if_pos (by decide +kernel)];kernel_rfl) | (rw[if_neg (by decide +kernel)];exact⟨rfl,rfl⟩)
theorem N7:Rows.fnCameRow.holds Tryz.pinned (OpenSpec.ofChange Rows.fnCameSpec):=
  OpenClaim.holds_of_wide 4 Tryz.f4 rfl rfl rfl rfl rfl rfl rfl ⟨rfl,rfl,rfl,rfl,rfl⟩ rfl rfl rfl rfl rfl named Tryz.func4 Lw inst IV
    (fun os started H enc _=>lifted os started H enc)

/-- The statement. -/
theorem proved:Rows.FnCameSaid:=N7
#print axioms proved
end Go.Proofs.YtedmfnmbjglmbaaGreat.fnCame
