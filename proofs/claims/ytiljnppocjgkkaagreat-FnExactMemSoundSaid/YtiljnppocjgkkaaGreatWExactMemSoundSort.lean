/- The sort of the Go library at the rows of this program: its contract out of the kit's shelf. -/
import Derived.Shelf.SlLaysF0
import Derived.Test.YtiljnppocjgkkaaGreatProg
import Derived.Test.YtiljnppocjgkkaaGreatET
import Derived.Test.YtiljnppocjgkkaaGreatWExactMemSoundMod
namespace Go.Proofs
open Go.Shelf
def af.sortTok_ren:Go.Shelf.Ren:=⟨fun | 6=>116 | 15=>162 | 14=>161 | 28=>204 | 29=>205 | 20=>196 | 21=>197 | 22=>198 | 23=>199 | 24=>200 | 25=>201 | 26=>202 | 27=>203 | 46=>225 | 47=>226 | 48=>227 | 49=>228 | 50=>229 | 57=>237 | n=>n,fun | 22=>74 | 24=>136 | 25=>195 | 3=>3 | 39=>246 | 0=>0 | 53=>282 | 55=>284 | 4=>4 | 46=>275 | 45=>274 | 50=>279 | 5=>5 | 9=>9 | 66=>304 | 70=>308 | 76=>312 | 77=>313 | n=>n,fun | n=>n⟩
theorem af.sortTok:Go.Proofs.SlLaysF0.n6 af.prog af.sortTok_ren:={
  bW:=by kernel_rfl
  f6:=⟨af.f116.name,by decide,af.func116.trans (congrArg some (by kernel_rfl))⟩
  f14:=⟨af.f161.name,by decide,af.func161.trans (congrArg some (by kernel_rfl))⟩
  f15:=af.func162.trans (congrArg some (by kernel_rfl))
  f20:=⟨af.f196.name,by decide,af.func196.trans (congrArg some (by kernel_rfl))⟩
  f21:=⟨af.f197.name,by decide,af.func197.trans (congrArg some (by kernel_rfl))⟩
  f22:=⟨af.f198.name,by decide,af.func198.trans (congrArg some (by kernel_rfl))⟩
  f23:=⟨af.f199.name,by decide,af.func199.trans (congrArg some (by kernel_rfl))⟩
  f24:=⟨af.f200.name,by decide,af.func200.trans (congrArg some (by kernel_rfl))⟩
  f25:=⟨af.f201.name,by decide,af.func201.trans (congrArg some (by kernel_rfl))⟩
  f26:=⟨af.f202.name,by decide,af.func202.trans (congrArg some (by kernel_rfl))⟩
  f27:=⟨af.f203.name,by decide,af.func203.trans (congrArg some (by kernel_rfl))⟩
  f28:=af.func204.trans (congrArg some (by kernel_rfl))
  f29:=af.func205.trans (congrArg some (by kernel_rfl))
  f46:=⟨af.f225.name,by decide,af.func225.trans (congrArg some (by kernel_rfl))⟩
  f47:=af.func226.trans (congrArg some (by kernel_rfl))
  f48:=af.func227.trans (congrArg some (by kernel_rfl))
  f49:=⟨af.f228.name,by decide,af.func228.trans (congrArg some (by kernel_rfl))⟩
  f50:=⟨af.f229.name,by decide,af.func229.trans (congrArg some (by kernel_rfl))⟩
  f57:=⟨af.f237.name,by decide,af.func237.trans (congrArg some (by kernel_rfl))⟩
  t0:=af.underlying0
  a0:=af.isAgg0
  z0:=af.sizeOf0
  v0:=af.zeroValue0
  t3:=af.underlying3
  a3:=af.isAgg3
  z3:=af.sizeOf3
  v3:=af.zeroValue3
  t4:=af.underlying4
  a4:=af.isAgg4
  z4:=af.sizeOf4
  v4:=af.zeroValue4
  t5:=af.underlying5
  a5:=af.isAgg5
  z5:=af.sizeOf5
  v5:=af.zeroValue5
  t9:=af.underlying9
  a9:=af.isAgg9
  z9:=af.sizeOf9
  v9:=af.zeroValue9
  t22:=af.underlying74
  a22:=af.isAgg74
  z22:=af.sizeOf74
  v22:=af.zeroValue74
  t25:=af.underlying195
  a25:=af.isAgg195
  z25:=af.sizeOf195
  v25:=af.zeroValue195
  t39:=af.underlying246
  a39:=af.isAgg246
  z39:=af.sizeOf246
  v39:=af.zeroValue246
  t45:=af.underlying274
  a45:=af.isAgg274
  z45:=af.sizeOf274
  v45:=af.zeroValue274
  t46:=af.underlying275
  a46:=af.isAgg275
  z46:=af.sizeOf275
  v46:=af.zeroValue275
  t50:=af.underlying279
  a50:=af.isAgg279
  z50:=af.sizeOf279
  v50:=af.zeroValue279
  t53:=af.underlying282
  a53:=af.isAgg282
  z53:=af.sizeOf282
  v53:=af.zeroValue282
  t55:=af.underlying284
  a55:=af.isAgg284
  z55:=af.sizeOf284
  v55:=af.zeroValue284
  t66:=af.underlying304
  a66:=af.isAgg304
  z66:=af.sizeOf304
  v66:=af.zeroValue304
  t70:=af.underlying308
  a70:=af.isAgg308
  z70:=af.sizeOf308
  v70:=af.zeroValue308
  t76:=af.underlying312
  a76:=af.isAgg312
  z76:=af.sizeOf312
  v76:=af.zeroValue312
  t77:=af.underlying313
  a77:=af.isAgg313
  z77:=af.sizeOf313
  v77:=af.zeroValue313 }
end Go.Proofs
namespace Go.Proofs.YtiljnppocjgkkaaGreat
open Eng
set_option linter.unusedVariables false
set_option maxRecDepth 100000
theorem gy {Ψ Φ:Hp} {pv0:Value} {pD0:List Nat} {p1f:Nat} {p1fr:List Value} (N:Nat) (w0:ag Ψ Φ [ob pv0].flatten) (p0:(List aa)) (p1:aa→aa→Option (Int)) (ph0:OSl bD 136 2 Φ pD0 pv0 p0) (p1hF:Fun af.prog p1f=true) (p1h:∀ {Φ':Hp} {w':World},FrH [ob pv0].flatten Φ Φ'→In Φ' w'→∀ (p1a0:aa) (p1a1:aa) {p1v0_0:Value} {p1G0_0:List Nat} {p1v0_1:Value} {p1G0_1:List Nat} {p1v1_0:Value} {p1G1_0:List Nat} {p1v1_1:Value} {p1G1_1:List Nat} (_:RSl (RI .i64) 1 Φ' p1G0_0 p1v0_0 p1a0.Ids) (_:RSl (RI .i64) 1 Φ' p1G0_1 p1v0_1 p1a0.Hits) (_:RSl (RI .i64) 1 Φ' p1G1_0 p1v1_0 p1a1.Ids) (_:RSl (RI .i64) 1 Φ' p1G1_1 p1v1_1 p1a1.Hits) {r:Int},p1 p1a0 p1a1=some r→Calls af.prog p1f (([.agg [p1v0_0,p1v0_1].toArray,.agg [p1v1_0,p1v1_1].toArray]:List Value)++p1fr).toArray w' (pP (.int .i64 r) w')) (pd0:Dj pD0 [ob pv0].flatten) {r:(List aa)} (h:d8 N p0 p1=some r) :
    Calls af.prog 116 [pv0,.func (.func p1f) #[] p1fr.toArray].toArray w0.w (aS Φ w0.w [ob pv0].flatten (fun Φ' Fs v=>∃ (Do_0_0:List Nat),v = .tuple #[]∧Fs=[ob pv0]∧OSl bD 136 2 Φ' Do_0_0 pv0 r∧(∀ k∈Do_0_0,k∈pD0))):=
  Dt (R:=bD) (e:=136) af.sortTok bD.lasts bD.one (by decide) af.isAgg136 af.sizeOf136 w0 p0 p1 ph0 p1hF (fun hfr hin a b _ _ _ _ ha hb _ hr=>by
    obtain ⟨sa0,Fa0,sa1,Fa1,rfl,rfl,ha0,ha1⟩:=ha
    obtain ⟨sb0,Fb0,sb1,Fb1,rfl,rfl,hb0,hb1⟩:=hb
    exact p1h hfr hin a b ha0 ha1 hb0 hb1 hr) pd0 h
end Go.Proofs.YtiljnppocjgkkaaGreat
