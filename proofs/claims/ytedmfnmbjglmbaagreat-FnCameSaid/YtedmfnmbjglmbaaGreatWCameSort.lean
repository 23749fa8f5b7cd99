/- The sort of the Go library at the rows of this program: its contract out of the kit's shelf. -/
import Derived.Shelf.SlLaysF0
import Derived.Test.YtedmfnmbjglmbaaGreatProg
import Derived.Test.YtedmfnmbjglmbaaGreatET
import Derived.Test.YtedmfnmbjglmbaaGreatWCameMod
namespace Go.Proofs
open Go.Shelf
def Tryz.sortTok_ren:Go.Shelf.Ren:=⟨fun | 6=>180 | 15=>221 | 14=>220 | 28=>250 | 29=>251 | 20=>242 | 21=>243 | 22=>244 | 23=>245 | 24=>246 | 25=>247 | 26=>248 | 27=>249 | 46=>259 | 47=>260 | 48=>261 | 49=>262 | 50=>263 | 57=>268 | n=>n,fun | 22=>101 | 24=>105 | 25=>229 | 3=>3 | 39=>249 | 0=>0 | 53=>278 | 55=>280 | 4=>4 | 46=>272 | 45=>271 | 50=>116 | 5=>5 | 9=>9 | 66=>282 | 70=>286 | 76=>288 | 77=>289 | n=>n,fun | n=>n⟩
theorem Tryz.sortTok:Go.Proofs.SlLaysF0.n6 Tryz.prog Tryz.sortTok_ren:={
  mixed:=by kernel_rfl
  f6:=⟨Tryz.f180.name,by decide,Tryz.func180.trans (congrArg some (by kernel_rfl))⟩
  f14:=⟨Tryz.f220.name,by decide,Tryz.func220.trans (congrArg some (by kernel_rfl))⟩
  f15:=Tryz.func221.trans (congrArg some (by kernel_rfl))
  f20:=⟨Tryz.f242.name,by decide,Tryz.func242.trans (congrArg some (by kernel_rfl))⟩
  f21:=⟨Tryz.f243.name,by decide,Tryz.func243.trans (congrArg some (by kernel_rfl))⟩
  f22:=⟨Tryz.f244.name,by decide,Tryz.func244.trans (congrArg some (by kernel_rfl))⟩
  f23:=⟨Tryz.f245.name,by decide,Tryz.func245.trans (congrArg some (by kernel_rfl))⟩
  f24:=⟨Tryz.f246.name,by decide,Tryz.func246.trans (congrArg some (by kernel_rfl))⟩
  f25:=⟨Tryz.f247.name,by decide,Tryz.func247.trans (congrArg some (by kernel_rfl))⟩
  f26:=⟨Tryz.f248.name,by decide,Tryz.func248.trans (congrArg some (by kernel_rfl))⟩
  f27:=⟨Tryz.f249.name,by decide,Tryz.func249.trans (congrArg some (by kernel_rfl))⟩
  f28:=Tryz.func250.trans (congrArg some (by kernel_rfl))
  f29:=Tryz.func251.trans (congrArg some (by kernel_rfl))
  f46:=⟨Tryz.f259.name,by decide,Tryz.func259.trans (congrArg some (by kernel_rfl))⟩
  f47:=Tryz.func260.trans (congrArg some (by kernel_rfl))
  f48:=Tryz.func261.trans (congrArg some (by kernel_rfl))
  f49:=⟨Tryz.f262.name,by decide,Tryz.func262.trans (congrArg some (by kernel_rfl))⟩
  f50:=⟨Tryz.f263.name,by decide,Tryz.func263.trans (congrArg some (by kernel_rfl))⟩
  f57:=⟨Tryz.f268.name,by decide,Tryz.func268.trans (congrArg some (by kernel_rfl))⟩
  t0:=Tryz.underlying0
  a0:=Tryz.isAgg0
  z0:=Tryz.sizeOf0
  v0:=Tryz.zeroValue0
  t3:=Tryz.underlying3
  a3:=Tryz.isAgg3
  z3:=Tryz.sizeOf3
  v3:=Tryz.zeroValue3
  t4:=Tryz.underlying4
  a4:=Tryz.isAgg4
  z4:=Tryz.sizeOf4
  v4:=Tryz.zeroValue4
  t5:=Tryz.underlying5
  a5:=Tryz.isAgg5
  z5:=Tryz.sizeOf5
  v5:=Tryz.zeroValue5
  t9:=Tryz.underlying9
  a9:=Tryz.isAgg9
  z9:=Tryz.sizeOf9
  v9:=Tryz.zeroValue9
  t22:=Tryz.underlying101
  a22:=Tryz.isAgg101
  z22:=Tryz.sizeOf101
  v22:=Tryz.zeroValue101
  t25:=Tryz.underlying229
  a25:=Tryz.isAgg229
  z25:=Tryz.sizeOf229
  v25:=Tryz.zeroValue229
  t39:=Tryz.underlying249
  a39:=Tryz.isAgg249
  z39:=Tryz.sizeOf249
  v39:=Tryz.zeroValue249
  t45:=Tryz.underlying271
  a45:=Tryz.isAgg271
  z45:=Tryz.sizeOf271
  v45:=Tryz.zeroValue271
  t46:=Tryz.underlying272
  a46:=Tryz.isAgg272
  z46:=Tryz.sizeOf272
  v46:=Tryz.zeroValue272
  t50:=Tryz.underlying116
  a50:=Tryz.isAgg116
  z50:=Tryz.sizeOf116
  v50:=Tryz.zeroValue116
  t53:=Tryz.underlying278
  a53:=Tryz.isAgg278
  z53:=Tryz.sizeOf278
  v53:=Tryz.zeroValue278
  t55:=Tryz.underlying280
  a55:=Tryz.isAgg280
  z55:=Tryz.sizeOf280
  v55:=Tryz.zeroValue280
  t66:=Tryz.underlying282
  a66:=Tryz.isAgg282
  z66:=Tryz.sizeOf282
  v66:=Tryz.zeroValue282
  t70:=Tryz.underlying286
  a70:=Tryz.isAgg286
  z70:=Tryz.sizeOf286
  v70:=Tryz.zeroValue286
  t76:=Tryz.underlying288
  a76:=Tryz.isAgg288
  z76:=Tryz.sizeOf288
  v76:=Tryz.zeroValue288
  t77:=Tryz.underlying289
  a77:=Tryz.isAgg289
  z77:=Tryz.sizeOf289
  v77:=Tryz.zeroValue289 }
end Go.Proofs
namespace Go.Proofs.YtedmfnmbjglmbaaGreat
open Eng
set_option linter.unusedVariables false
set_option maxRecDepth 100000
theorem jh {w f:Hp} {c:Value} {g:List Nat} {i:Nat} {o:List Value} (N:Nat) (w0:aD w f [ob c].flatten) (j:(List ao)) (l:ao→ao→Option (Int)) (x:OSl dW 105 2 f g c j) (y:Fun Tryz.prog i=true) (z:∀ {d:Hp} {w':World},FrH [ob c].flatten f d→In d w'→∀ (m:ao) (n:ao) {p:Value} {A:List Nat} {q:Value} {B:List Nat} {s:Value} {C:List Nat} {t:Value} {D:List Nat} (_:RSl (RI .i64) 1 d A p m.Ids) (_:RSl (RI .i64) 1 d B q m.Hits) (_:RSl (RI .i64) 1 d C s n.Ids) (_:RSl (RI .i64) 1 d D t n.Hits) {r:Int},l m n=some r→Calls Tryz.prog i (([.agg [p,q].toArray,.agg [s,t].toArray]:List Value)++o).toArray w' (lw (.int .i64 r) w')) (E:Dj g [ob c].flatten) {r:(List ao)} (h:eO N j l=some r) :
    Calls Tryz.prog 180 [c,.func (.func i) #[] o.toArray].toArray w0.w (bc f w0.w [ob c].flatten (fun d Fs v=>∃ (u:List Nat),v = .tuple #[]∧Fs=[ob c]∧OSl dW 105 2 d u c r∧(∀ k∈u,k∈g))):=
  CO (R:=dW) (e:=105) Tryz.sortTok dW.lasts dW.one (by decide) Tryz.isAgg105 Tryz.sizeOf105 w0 j l x y (fun F G a b _ _ _ _ H I _ K=>by
    obtain⟨Q,S,T,U,rfl,rfl,L,M⟩:=H
    obtain⟨V,W,X,Y,rfl,rfl,O,P⟩:=I
    exact z F G a b L M O P K) E h
end Go.Proofs.YtedmfnmbjglmbaaGreat
