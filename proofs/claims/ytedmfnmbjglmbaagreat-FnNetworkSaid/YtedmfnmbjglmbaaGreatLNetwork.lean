/- The law FnNetwork: its arguments as data, and the step to the given row. The walk and the plain law come from the texts that are imported. -/
import Derived.Test.YtedmfnmbjglmbaaGreatRows
import Derived.Test.YtedmfnmbjglmbaaGreatEG
import Derived.Test.YtedmfnmbjglmbaaGreatWNetworkWalk
import Derived.Test.YtedmfnmbjglmbaaGreatTNetworkc
import Derived.OpenShut
import Derived.LaidLaws
import Derived.Handed
import Derived.Lib.LaidTab
import Derived.ShutString
import Derived.ChangeOld
namespace Go.Proofs.YtedmfnmbjglmbaaGreat.fnNetwork
open Eng
open Go.ChangeShapes Go.WideShapes Go.ChangeAt Go.RowKit
open Go.ChangeMaps (open_string shut_string)
set_option linter.unusedVariables false
set_option linter.unusedSimpArgs false

theorem Oe:Tryz.prog.underlying 5=some (.int .u8):=OX
theorem Cp:Sl Tryz.prog 22 5 1=true:=OX
theorem own:ownKnob Tryz.prog.godebug=none:=OX
theorem Jk:laidOutB Tryz.prog=true:=OX
set_option maxRecDepth 100000 in
theorem lifted (os:Os) (started:os.Started) (H:Type) (enc:TypeId × Value→H) :
    ReturnsInHanded {} Tryz.checked os 7 .any (Rows.fnNetworkSpec.pre6 enc Tryz.prog Tryz.f7 Rows.fnNetworkRow.domain false) (Rows.fnNetworkSpec.post enc Tryz.prog Tryz.f7 false true false false):=by
  refine returnsInHanded_of_change (C:=Tryz.checked) own started OX Tryz.func7
    (ChangeSpec.witness6 (enc:=enc) (C:=Tryz.checked) false ⟨#[],#[.slice none 0 0],[]⟩ 8 OX OX OX OX) ?_
  intro W base args l gs before a b B _
  have c:∀ (j:Nat) t v,Tryz.f7.params[j]?=some t→args[j]?=some v→Value.okWide Tryz.prog W .any base t v:=a
  have n:=b
  obtain⟨p,q,d,o,rfl,D,E⟩:=b
  have f:DataW.TrodAll enc Tryz.prog W 0 (fun _=>true) true Tryz.f7.params.toList args.toList l p:=d
  rw[Tryz.params7] at f c
  obtain⟨v0,F,d0,G,r,g,I,rfl,rfl,i,s⟩:=trodAll_cons f
  obtain⟨rfl,rfl,rfl⟩:=trodAll_nil s
  obtain rfl:args = #[v0]:=by cases args;simp_all
  obtain⟨rfl,rfl⟩:=trodVars_none o
  have k:=i
  have u:∀ x∈r,x.block < W.heap.size:=by obtain⟨m,hm⟩:=k;exact DataW.trod_lt m _ _ _ hm
  obtain⟨m0,w⟩:=i
  obtain⟨K,y,z,-,w0⟩:=(Is Cp (Mn Oe) rfl) _ _ _ _ _ _ _ w
  obtain⟨a0,L,M,rfl⟩:=okWide_slice (wB Cp) (c 0 22 v0 rfl rfl)
  obtain⟨N,A,g⟩:=z
  obtain rfl:=IG A
  clear d a
  refine (wX 1099511627776 (ba (Nv W)) y g (law w0)).mono fun e O ⟨he,bel⟩=>?_
  subst he
  replace bel:=bel.toBelow
  exact⟨_,rfl,_,_,_,[],_,[],n,trodAll_mk1 (shut_bool (by kernel_rfl:Tryz.prog.underlying 4=some .bool) _),(trodAll_cons_mk (Below.trod Jk OX (of_decide_eq_true OX) k bel u) trodAll_mk0),rfl,bel.frame _,fun h=>by cases h⟩

theorem named:Tryz.pinned.checked.prog.funcNamed Rows.fnNetworkRow.func=some 7:=OX
theorem mh {a b:Bool} (c:a=true) (d:b=true):(a && b)=true:=by rw[c,d];rfl
theorem cl0:(Rows.fnNetworkRow.wf (OpenSpec.ofChange Rows.fnNetworkSpec))=true:=OX
theorem cl1:(laidOutB Tryz.pinned.checked.prog)=true:=OX
theorem cl2:(mapsRowed Tryz.pinned.checked.prog)=true:=OX
theorem cl3:(Tryz.f7.params.all (Tryz.pinned.checked.prog.readableRec ·))=true:=OX
theorem cl4:(namedTie Tryz.pinned.checked.prog Rows.fnNetworkRow.named Rows.fnNetworkSpec.vars)=true:=OX
theorem cl5:((Rows.fnNetworkRow.stops == []))=true:=OX
theorem cl6:((Tryz.pinned.checked.prog.stops == []))=true:=OX
theorem cl7:((Rows.fnNetworkRow.knobs == []))=true:=OX
theorem cl8:((Tryz.pinned.checked.prog.stopKnobs == []))=true:=OX
theorem cl9:((Rows.fnNetworkRow.inPlace == Tryz.pinned.checked.prog.inPlace 7))=true:=OX
theorem Oa:((Rows.fnNetworkRow.unfollowed == Tryz.pinned.checked.prog.unfollowed 7))=true:=OX
theorem OK:((Rows.fnNetworkRow.recurses == Tryz.pinned.checked.prog.recurses 7))=true:=OX
theorem OG:((Rows.fnNetworkRow.named == Tryz.pinned.checked.prog.varsNamed 7))=true:=OX
theorem Ow:((Rows.fnNetworkRow.maps == (Tryz.f7.params.toList++Rows.fnNetworkSpec.plain.varTypes Tryz.pinned.checked.prog).any (Tryz.pinned.checked.prog.mapsRec ·)))=true:=OX
theorem Oz:((Rows.fnNetworkRow.ifaces == (Tryz.f7.params.toList++Rows.fnNetworkSpec.plain.varTypes Tryz.pinned.checked.prog).any (Tryz.pinned.checked.prog.ifacesRec ·)))=true:=OX
theorem Ob:((Rows.fnNetworkRow.mapsOut == Tryz.pinned.checked.prog.mapsAmong Tryz.f7.resultTypes.toList))=true:=OX
theorem OV:((Rows.fnNetworkRow.loops == (Tryz.f7.params.toList++Rows.fnNetworkSpec.plain.varTypes Tryz.pinned.checked.prog).any (Tryz.pinned.checked.prog.loopsFrom ·)))=true:=OX
theorem Ox:((Rows.fnNetworkRow.wideKeys == (Tryz.f7.params.toList++Rows.fnNetworkSpec.plain.varTypes Tryz.pinned.checked.prog++Tryz.f7.resultTypes.toList).any (Tryz.pinned.checked.prog.wideKeysFrom ·)))=true:=OX
theorem OE:(Rows.fnNetworkSpec.vars.all (Tryz.pinned.checked.prog.varReadable ·))=true:=OX
theorem OR:(Tryz.f7.resultTypes.all (fun t=>Tryz.pinned.checked.prog.readableRec t && decide (t < Tryz.pinned.checked.prog.types.size)))=true:=OX
theorem Oo:((Rows.fnNetworkRow.ifacesOut == Tryz.f7.resultTypes.toList.any (Tryz.pinned.checked.prog.ifacesRec ·)))=true:=OX
theorem Oj:((Rows.fnNetworkRow.loopsOut == Tryz.f7.resultTypes.toList.any (Tryz.pinned.checked.prog.loopsFrom ·)))=true:=OX
theorem OH:((Rows.fnNetworkRow.plainKeys == Tryz.pinned.checked.prog.plainKeys))=true:=OX
theorem Oc:(Rows.fnNetworkRow.shortTexts.isNone)=true:=OX
theorem Ou:(Tryz.pinned.checked.prog.stopsHeard)=true:=OX
theorem Od:(Tryz.pinned.checked.prog.mayEnter)=true:=OX
theorem OP:((Rows.fnNetworkRow.lifted == Tryz.pinned.checked.prog.liftsFinal))=true:=OX
theorem OB:((Tryz.pinned.checked.prog.make == some Rows.fnNetworkRow.make))=true:=OX
theorem Om:((Rows.fnNetworkRow.kinds == (if Rows.fnNetworkRow.domain.isEmpty then [] else Tryz.f7.params.toList.map fun t=>match Tryz.pinned.checked.prog.underlying t with | some (.int k)=>some k | _=>none)))=true:=OX
theorem Oi:((Rows.fnNetworkRow.pinned == Rows.fnNetworkRow.pinnedBy))=true:=OX
theorem Ov:((Rows.fnNetworkRow.veiled == (Tryz.f7.params.toList++Rows.fnNetworkSpec.plain.varTypes Tryz.pinned.checked.prog++Tryz.f7.resultTypes.toList).any (Tryz.pinned.checked.prog.veiledRec ·)))=true:=OX
theorem OW:(Rows.fnNetworkRow.veiledFits Tryz.pinned.checked.prog Tryz.f7.params.toList (Tryz.f7.params.toList++Rows.fnNetworkSpec.plain.varTypes Tryz.pinned.checked.prog++Tryz.f7.resultTypes.toList))=true:=OX
set_option maxRecDepth 100000 in
theorem Lw:joinedFacts Tryz.pinned.checked.prog 7 Tryz.f7 Rows.fnNetworkSpec Rows.fnNetworkRow=true:=by
  unfold joinedFacts
  exact (mh (mh (mh (mh (mh (mh (mh (mh (mh (mh (mh (mh (mh (mh (mh (mh (mh (mh (mh (mh (mh (mh (mh (mh (mh (mh (mh (mh (mh (mh (mh cl0 cl1) cl2) cl3) cl4) cl5) cl6) cl7) cl8) cl9) Oa) OK) OG) Ow) Oz) Ob) OV) Ox) OE) OR) Oo) Oj) OH) Oc) Ou) Od) OP) OB) Om) Oi) Ov) OW)
theorem inst:Tryz.f7.isInstance Tryz.pinned.checked.prog Rows.fnNetworkRow.origin Rows.fnNetworkRow.targs:=of_decide_eq_true OX
theorem JI:Tryz.f7.isWrapper Tryz.pinned.checked.prog Rows.fnNetworkRow.wrapper Rows.fnNetworkRow.mainSum:=by unfold Func.isWrapper;first | (rw[if_pos (by decide +kernel)];kernel_rfl) | (rw[if_neg (by decide +kernel)];exact⟨rfl,rfl⟩)
theorem Ok:Rows.fnNetworkRow.holds Tryz.pinned (OpenSpec.ofChange Rows.fnNetworkSpec):=
  OpenClaim.holds_of_wide 7 Tryz.f7 rfl rfl rfl rfl rfl rfl rfl ⟨rfl,rfl,rfl,rfl,rfl⟩ rfl rfl rfl rfl rfl named Tryz.func7 Lw inst JI
    (fun os started H enc _=>lifted os started H enc)

/-- The statement. -/
theorem proved:Rows.FnNetworkSaid:=Ok
#print axioms proved
end Go.Proofs.YtedmfnmbjglmbaaGreat.fnNetwork
