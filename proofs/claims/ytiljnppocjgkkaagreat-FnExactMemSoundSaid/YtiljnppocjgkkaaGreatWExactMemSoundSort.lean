/- The sort of the Go library at the rows of this program: its contract out of the kit's shelf. -/
import Derived.Shelf.SlLaysF0
import Derived.Test.YtiljnppocjgkkaaGreatProg
import Derived.Test.YtiljnppocjgkkaaGreatET
import Derived.Test.YtiljnppocjgkkaaGreatWExactMemSoundMod
namespace Go.Proofs
open Go.Shelf
def Tryz.sortTok_ren:Go.Shelf.Ren:=⟨fun | 6=>116 | 15=>162 | 14=>161 | 28=>204 | 29=>205 | 20=>196 | 21=>197 | 22=>198 | 23=>199 | 24=>200 | 25=>201 | 26=>202 | 27=>203 | 46=>225 | 47=>226 | 48=>227 | 49=>228 | 50=>229 | 57=>237 | n=>n,fun | 22=>74 | 24=>136 | 25=>195 | 3=>3 | 39=>246 | 0=>0 | 53=>282 | 55=>284 | 4=>4 | 46=>275 | 45=>274 | 50=>279 | 5=>5 | 9=>9 | 66=>304 | 70=>308 | 76=>312 | 77=>313 | n=>n,fun | n=>n⟩
theorem Tryz.sortTok:Go.Proofs.SlLaysF0.n6 Tryz.prog Tryz.sortTok_ren:={
  mixed:=by kernel_rfl
  f6:=⟨Tryz.f116.name,by decide,Tryz.func116.trans (congrArg some (by kernel_rfl))⟩
  f14:=⟨Tryz.f161.name,by decide,Tryz.func161.trans (congrArg some (by kernel_rfl))⟩
  f15:=Tryz.func162.trans (congrArg some (by kernel_rfl))
  f20:=⟨Tryz.f196.name,by decide,Tryz.func196.trans (congrArg some (by kernel_rfl))⟩
  f21:=⟨Tryz.f197.name,by decide,Tryz.func197.trans (congrArg some (by kernel_rfl))⟩
  f22:=⟨Tryz.f198.name,by decide,Tryz.func198.trans (congrArg some (by kernel_rfl))⟩
  f23:=⟨Tryz.f199.name,by decide,Tryz.func199.trans (congrArg some (by kernel_rfl))⟩
  f24:=⟨Tryz.f200.name,by decide,Tryz.func200.trans (congrArg some (by kernel_rfl))⟩
  f25:=⟨Tryz.f201.name,by decide,Tryz.func201.trans (congrArg some (by kernel_rfl))⟩
  f26:=⟨Tryz.f202.name,by decide,Tryz.func202.trans (congrArg some (by kernel_rfl))⟩
  f27:=⟨Tryz.f203.name,by decide,Tryz.func203.trans (congrArg some (by kernel_rfl))⟩
  f28:=Tryz.func204.trans (congrArg some (by kernel_rfl))
  f29:=Tryz.func205.trans (congrArg some (by kernel_rfl))
  f46:=⟨Tryz.f225.name,by decide,Tryz.func225.trans (congrArg some (by kernel_rfl))⟩
  f47:=Tryz.func226.trans (congrArg some (by kernel_rfl))
  f48:=Tryz.func227.trans (congrArg some (by kernel_rfl))
  f49:=⟨Tryz.f228.name,by decide,Tryz.func228.trans (congrArg some (by kernel_rfl))⟩
  f50:=⟨Tryz.f229.name,by decide,Tryz.func229.trans (congrArg some (by kernel_rfl))⟩
  f57:=⟨Tryz.f237.name,by decide,Tryz.func237.trans (congrArg some (by kernel_rfl))⟩
  t0:=Tryz.underlying0
  a0:=Tryz.isAgg0
  z0:=Tryz.sizeOf0
  v0:=Tryz.zeroValue0
  t3:=Tryz.underlying3
  a3:=Tryz.isAgg3
  z3:=Tryz.sizeOf3
  v3:=Tryz.zeroValue3
  t4:=Tryz.underlying4
  a4:=Tryz.isAgg4
  z4:=Tryz.sizeOf4
  v4:=Tryz.zeroValue4
  t5:=Tryz.underlying5
  a5:=Tryz.isAgg5
  z5:=Tryz.sizeOf5
  v5:=Tryz.zeroValue5
  t9:=Tryz.underlying9
  a9:=Tryz.isAgg9
  z9:=Tryz.sizeOf9
  v9:=Tryz.zeroValue9
  t22:=Tryz.underlying74
  a22:=Tryz.isAgg74
  z22:=Tryz.sizeOf74
  v22:=Tryz.zeroValue74
  t25:=Tryz.underlying195
  a25:=Tryz.isAgg195
  z25:=Tryz.sizeOf195
  v25:=Tryz.zeroValue195
  t39:=Tryz.underlying246
  a39:=Tryz.isAgg246
  z39:=Tryz.sizeOf246
  v39:=Tryz.zeroValue246
  t45:=Tryz.underlying274
  a45:=Tryz.isAgg274
  z45:=Tryz.sizeOf274
  v45:=Tryz.zeroValue274
  t46:=Tryz.underlying275
  a46:=Tryz.isAgg275
  z46:=Tryz.sizeOf275
  v46:=Tryz.zeroValue275
  t50:=Tryz.underlying279
  a50:=Tryz.isAgg279
  z50:=Tryz.sizeOf279
  v50:=Tryz.zeroValue279
  t53:=Tryz.underlying282
  a53:=Tryz.isAgg282
  z53:=Tryz.sizeOf282
  v53:=Tryz.zeroValue282
  t55:=Tryz.underlying284
  a55:=Tryz.isAgg284
  z55:=Tryz.sizeOf284
  v55:=Tryz.zeroValue284
  t66:=Tryz.underlying304
  a66:=Tryz.isAgg304
  z66:=Tryz.sizeOf304
  v66:=Tryz.zeroValue304
  t70:=Tryz.underlying308
  a70:=Tryz.isAgg308
  z70:=Tryz.sizeOf308
  v70:=Tryz.zeroValue308
  t76:=Tryz.underlying312
  a76:=Tryz.isAgg312
  z76:=Tryz.sizeOf312
  v76:=Tryz.zeroValue312
  t77:=Tryz.underlying313
  a77:=Tryz.isAgg313
  z77:=Tryz.sizeOf313
  v77:=Tryz.zeroValue313 }
end Go.Proofs
namespace Go.Proofs.YtiljnppocjgkkaaGreat
open Eng
set_option linter.unusedVariables false
set_option maxRecDepth 100000
theorem gu {Ψ Φ:Hp} {pv0:Value} {pD0:List Nat} {p1f:Nat} {p1fr:List Value} (N:Nat) (w0:af Ψ Φ [ob pv0].flatten) (p0:(List aa)) (p1:aa→aa→Option (Int)) (ph0:OSl bC 136 2 Φ pD0 pv0 p0) (p1hF:Fun Tryz.prog p1f=true) (p1h:∀ {Φ':Hp} {w':World},FrH [ob pv0].flatten Φ Φ'→In Φ' w'→∀ (p1a0:aa) (p1a1:aa) {p1v0_0:Value} {p1G0_0:List Nat} {p1v0_1:Value} {p1G0_1:List Nat} {p1v1_0:Value} {p1G1_0:List Nat} {p1v1_1:Value} {p1G1_1:List Nat} (_:RSl (RI .i64) 1 Φ' p1G0_0 p1v0_0 p1a0.Ids) (_:RSl (RI .i64) 1 Φ' p1G0_1 p1v0_1 p1a0.Hits) (_:RSl (RI .i64) 1 Φ' p1G1_0 p1v1_0 p1a1.Ids) (_:RSl (RI .i64) 1 Φ' p1G1_1 p1v1_1 p1a1.Hits) {r:Int},p1 p1a0 p1a1=some r→Calls Tryz.prog p1f (([.agg [p1v0_0,p1v0_1].toArray,.agg [p1v1_0,p1v1_1].toArray]:List Value)++p1fr).toArray w' (pL (.int .i64 r) w')) (pd0:Dj pD0 [ob pv0].flatten) {r:(List aa)} (h:df N p0 p1=some r) :
    Calls Tryz.prog 116 [pv0,.func (.func p1f) #[] p1fr.toArray].toArray w0.w (aR Φ w0.w [ob pv0].flatten (fun Φ' Fs v=>∃ (Do_0_0:List Nat),v = .tuple #[]∧Fs=[ob pv0]∧OSl bC 136 2 Φ' Do_0_0 pv0 r∧(∀ k∈Do_0_0,k∈pD0))):=
  Dh (R:=bC) (e:=136) Tryz.sortTok bC.lasts bC.one (by decide) Tryz.isAgg136 Tryz.sizeOf136 w0 p0 p1 ph0 p1hF (fun hfr hin a b _ _ _ _ ha hb _ hr=>by
    obtain ⟨sa0,Fa0,sa1,Fa1,rfl,rfl,ha0,ha1⟩:=ha
    obtain ⟨sb0,Fb0,sb1,Fb1,rfl,rfl,hb0,hb1⟩:=hb
    exact p1h hfr hin a b ha0 ha1 hb0 hb1 hr) pd0 h
end Go.Proofs.YtiljnppocjgkkaaGreat
