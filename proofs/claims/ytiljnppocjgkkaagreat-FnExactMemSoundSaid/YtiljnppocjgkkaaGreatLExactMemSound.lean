/- The law FnExactMemSound: its arguments as data, and the step to the given row. The walk and the plain law come from the texts that are imported. -/
import Derived.Test.YtiljnppocjgkkaaGreatRows
import Derived.Test.YtiljnppocjgkkaaGreatEG
import Derived.Test.YtiljnppocjgkkaaGreatWExactMemSoundWalk
import Derived.Test.YtiljnppocjgkkaaGreatTExactMemSoundb
import Derived.OpenShut
import Derived.LaidLaws
import Derived.Handed
import Derived.Lib.LaidTab
import Derived.ShutString
import Derived.ChangeOld
namespace Go.Proofs.YtiljnppocjgkkaaGreat.fnExactMemSound
open Eng
open Go.ChangeShapes Go.WideShapes Go.ChangeAt Go.RowKit
open Go.ChangeMaps (open_string shut_string)
set_option linter.unusedVariables false
set_option linter.unusedSimpArgs false

theorem AY:af.prog.underlying 9=some (.string):=by kernel_rfl
theorem vf:af.prog.underlying 3=some (.int .i64):=by kernel_rfl
theorem IQ:iv af.prog 213=some [(0,3,1),(1,3,1),(2,9,1)]:=by kernel_rfl
theorem JQ:Sz af.prog 213 3=true:=by kernel_rfl
theorem Ja:iv af.prog 215=some [(0,3,1),(1,9,1),(2,213,3)]:=by kernel_rfl
theorem Iu:Sz af.prog 215 5=true:=by kernel_rfl
theorem J6:Sl af.prog 209 215 5=true:=by kernel_rfl
theorem LU:af.prog.underlying 4=some (.bool):=by kernel_rfl
theorem JG:iv af.prog 211=some [(0,9,1),(1,209,1),(2,4,1)]:=by kernel_rfl
theorem It:Sz af.prog 211 3=true:=by kernel_rfl
theorem L6:Sl af.prog 87 211 3=true:=by kernel_rfl
theorem JT:iv af.prog 217=some [(0,3,1),(1,215,5),(6,215,5)]:=by kernel_rfl
theorem IW:Sz af.prog 217 11=true:=by kernel_rfl
theorem KC:Sl af.prog 88 217 11=true:=by kernel_rfl
theorem JU:iv af.prog 299=some [(0,9,1),(1,215,5),(6,215,5)]:=by kernel_rfl
theorem K3:Sz af.prog 299 11=true:=by kernel_rfl
theorem JV:Sl af.prog 219 299 11=true:=by kernel_rfl
theorem JF:iv af.prog 221=some [(0,3,1),(1,9,1),(2,219,1),(3,3,1),(4,9,1)]:=by kernel_rfl
theorem Iy:Sz af.prog 221 5=true:=by kernel_rfl
theorem Kg:Sl af.prog 89 221 5=true:=by kernel_rfl
theorem Li:iv af.prog 91=some [(0,9,1),(1,3,1),(2,87,1),(3,88,1),(4,89,1)]:=by kernel_rfl
theorem KW:Sz af.prog 91 5=true:=by kernel_rfl
theorem Kh:Sl af.prog 22 91 5=true:=by kernel_rfl
theorem L5:iv af.prog 24=some [(0,9,1),(1,22,1)]:=by kernel_rfl
theorem HL:Sz af.prog 24 2=true:=by kernel_rfl
theorem bE:Sl af.prog 67 3 1=true:=by kernel_rfl
theorem Km:iv af.prog 93=some [(0,67,1)]:=by kernel_rfl
theorem Lh:Sz af.prog 93 1=true:=by kernel_rfl
theorem KH:Sl af.prog 25 93 1=true:=by kernel_rfl
theorem IP:iv af.prog 301=some [(0,67,1),(1,67,1)]:=by kernel_rfl
theorem Js:Sz af.prog 301 2=true:=by kernel_rfl
theorem JI:Sl af.prog 223 301 2=true:=by kernel_rfl
theorem JO:iv af.prog 225=some [(0,223,1)]:=by kernel_rfl
theorem IB:Sz af.prog 225 1=true:=by kernel_rfl
theorem KA:Sl af.prog 95 225 1=true:=by kernel_rfl
theorem Kx:iv af.prog 97=some [(0,95,1)]:=by kernel_rfl
theorem KF:Sz af.prog 97 1=true:=by kernel_rfl
theorem KV:Sl af.prog 26 97 1=true:=by kernel_rfl
theorem Lf:iv af.prog 28=some [(0,25,1),(1,26,1)]:=by kernel_rfl
theorem HR:Sz af.prog 28 2=true:=by kernel_rfl
theorem Lk:Sl af.prog 99 213 3=true:=by kernel_rfl
theorem Jc:iv af.prog 101=some [(0,9,1),(1,99,1)]:=by kernel_rfl
theorem Jk:Sz af.prog 101 2=true:=by kernel_rfl
theorem IM:iv af.prog 103=some [(0,3,1),(1,101,2)]:=by kernel_rfl
theorem JH:Sz af.prog 103 3=true:=by kernel_rfl
theorem KO:Sl af.prog 29 103 3=true:=by kernel_rfl
theorem Kr:iv af.prog 31=some [(0,29,1),(1,3,1)]:=by kernel_rfl
theorem I1:Sz af.prog 31 2=true:=by kernel_rfl
theorem Ft {w:World}:Rdt af.prog w 213 aF xu:=fun H enc sp held n cs x hx=>by
  obtain ⟨ps,n1,hps,hl,hp⟩:=dm (fl:=[(0,3,1),(1,3,1),(2,9,1)]) IQ rfl JQ hx
  match ps,hl with
  | [q0,q1,q2],_=>
    obtain ⟨y0,t0⟩:=hp 0 _ _ _ q0 rfl rfl
    obtain ⟨F0,z0,r0,-,w0⟩:=(mR vf) _ _ _ _ _ _ _ t0
    obtain ⟨rfl,rfl⟩:=r0
    obtain ⟨y1,t1⟩:=hp 1 _ _ _ q1 rfl rfl
    obtain ⟨F1,z1,r1,-,w1⟩:=(mR vf) _ _ _ _ _ _ _ t1
    obtain ⟨rfl,rfl⟩:=r1
    obtain ⟨y2,t2⟩:=hp 2 _ _ _ q2 rfl rfl
    obtain ⟨F2,z2,r2,-,w2⟩:=(qG AY) _ _ _ _ _ _ _ t2
    obtain ⟨rfl,rfl⟩:=r2
    have R:aF (Eng.hp w) _ cs (⟨z0,z1,z2⟩:aQ):=⟨by rw [hps]; rfl,rfl⟩
    exact ⟨_,_,R,aF.knows _ _ _ _ R,⟨w0,w1,w2⟩⟩
theorem wL {w:World}:Rdt af.prog w 215 cv rG:=fun H enc sp held n cs x hx=>by
  obtain ⟨ps,n1,hps,hl,hp⟩:=dm (fl:=[(0,3,1),(1,9,1),(2,213,3)]) Ja rfl Iu hx
  match ps,hl with
  | [q0,q1,q2],_=>
    obtain ⟨y0,t0⟩:=hp 0 _ _ _ q0 rfl rfl
    obtain ⟨F0,z0,r0,-,w0⟩:=(mR vf) _ _ _ _ _ _ _ t0
    obtain ⟨rfl,rfl⟩:=r0
    obtain ⟨y1,t1⟩:=hp 1 _ _ _ q1 rfl rfl
    obtain ⟨F1,z1,r1,-,w1⟩:=(qG AY) _ _ _ _ _ _ _ t1
    obtain ⟨rfl,rfl⟩:=r1
    obtain ⟨y2,t2⟩:=hp 2 _ _ _ q2 rfl rfl
    obtain ⟨F2,z2,r2,-,w2⟩:=Ft _ _ _ _ _ _ _ t2
    obtain ⟨rfl,rfl⟩:=r2
    have R:cv (Eng.hp w) _ cs (⟨z0,z1,z2⟩:bk):=⟨by rw [hps]; rfl,rfl⟩
    exact ⟨_,_,R,cv.knows _ _ _ _ R,⟨w0,w1,w2⟩⟩
theorem JE {w:World}:Rdt af.prog w 211 bw BQ:=fun H enc sp held n cs x hx=>by
  obtain ⟨ps,n1,hps,hl,hp⟩:=dm (fl:=[(0,9,1),(1,209,1),(2,4,1)]) JG rfl It hx
  match ps,hl with
  | [q0,q1,q2],_=>
    obtain ⟨y0,t0⟩:=hp 0 _ _ _ q0 rfl rfl
    obtain ⟨F0,z0,r0,-,w0⟩:=(qG AY) _ _ _ _ _ _ _ t0
    obtain ⟨rfl,rfl⟩:=r0
    obtain ⟨y1,t1⟩:=hp 1 _ _ _ q1 rfl rfl
    obtain ⟨F1,z1,r1,-,w1⟩:=(f9 J6 wL rfl) _ _ _ _ _ _ _ t1
    obtain ⟨s1,rfl,r1⟩:=r1
    obtain ⟨y2,t2⟩:=hp 2 _ _ _ q2 rfl rfl
    obtain ⟨F2,z2,r2,-,w2⟩:=(GC LU) _ _ _ _ _ _ _ t2
    obtain ⟨rfl,rfl⟩:=r2
    have R:bw (Eng.hp w) _ cs (⟨z0,z1,z2⟩:aq):=⟨s1,F1,by rw [hps]; rfl,rfl,r1⟩
    exact ⟨_,_,R,bw.knows _ _ _ _ R,⟨w0,w1,w2⟩⟩
theorem IT {w:World}:Rdt af.prog w 217 bm vo:=fun H enc sp held n cs x hx=>by
  obtain ⟨ps,n1,hps,hl,hp⟩:=dm (fl:=[(0,3,1),(1,215,5),(6,215,5)]) JT rfl IW hx
  match ps,hl with
  | [q0,q1,q2],_=>
    obtain ⟨y0,t0⟩:=hp 0 _ _ _ q0 rfl rfl
    obtain ⟨F0,z0,r0,-,w0⟩:=(mR vf) _ _ _ _ _ _ _ t0
    obtain ⟨rfl,rfl⟩:=r0
    obtain ⟨y1,t1⟩:=hp 1 _ _ _ q1 rfl rfl
    obtain ⟨F1,z1,r1,-,w1⟩:=wL _ _ _ _ _ _ _ t1
    obtain ⟨rfl,rfl⟩:=r1
    obtain ⟨y2,t2⟩:=hp 2 _ _ _ q2 rfl rfl
    obtain ⟨F2,z2,r2,-,w2⟩:=wL _ _ _ _ _ _ _ t2
    obtain ⟨rfl,rfl⟩:=r2
    have R:bm (Eng.hp w) _ cs (⟨z0,z1,z2⟩:bA):=⟨by rw [hps]; rfl,rfl⟩
    exact ⟨_,_,R,bm.knows _ _ _ _ R,⟨w0,w1,w2⟩⟩
theorem IG {w:World}:Rdt af.prog w 299 cu vk:=fun H enc sp held n cs x hx=>by
  obtain ⟨ps,n1,hps,hl,hp⟩:=dm (fl:=[(0,9,1),(1,215,5),(6,215,5)]) JU rfl K3 hx
  match ps,hl with
  | [q0,q1,q2],_=>
    obtain ⟨y0,t0⟩:=hp 0 _ _ _ q0 rfl rfl
    obtain ⟨F0,z0,r0,-,w0⟩:=(qG AY) _ _ _ _ _ _ _ t0
    obtain ⟨rfl,rfl⟩:=r0
    obtain ⟨y1,t1⟩:=hp 1 _ _ _ q1 rfl rfl
    obtain ⟨F1,z1,r1,-,w1⟩:=wL _ _ _ _ _ _ _ t1
    obtain ⟨rfl,rfl⟩:=r1
    obtain ⟨y2,t2⟩:=hp 2 _ _ _ q2 rfl rfl
    obtain ⟨F2,z2,r2,-,w2⟩:=wL _ _ _ _ _ _ _ t2
    obtain ⟨rfl,rfl⟩:=r2
    have R:cu (Eng.hp w) _ cs (⟨z0,z1,z2⟩:bv):=⟨by rw [hps]; rfl,rfl⟩
    exact ⟨_,_,R,cu.knows _ _ _ _ R,⟨w0,w1,w2⟩⟩
theorem J7 {w:World}:Rdt af.prog w 221 cZ Bf:=fun H enc sp held n cs x hx=>by
  obtain ⟨ps,n1,hps,hl,hp⟩:=dm (fl:=[(0,3,1),(1,9,1),(2,219,1),(3,3,1),(4,9,1)]) JF rfl Iy hx
  match ps,hl with
  | [q0,q1,q2,q3,q4],_=>
    obtain ⟨y0,t0⟩:=hp 0 _ _ _ q0 rfl rfl
    obtain ⟨F0,z0,r0,-,w0⟩:=(mR vf) _ _ _ _ _ _ _ t0
    obtain ⟨rfl,rfl⟩:=r0
    obtain ⟨y1,t1⟩:=hp 1 _ _ _ q1 rfl rfl
    obtain ⟨F1,z1,r1,-,w1⟩:=(qG AY) _ _ _ _ _ _ _ t1
    obtain ⟨rfl,rfl⟩:=r1
    obtain ⟨y2,t2⟩:=hp 2 _ _ _ q2 rfl rfl
    obtain ⟨F2,z2,r2,-,w2⟩:=(f9 JV IG rfl) _ _ _ _ _ _ _ t2
    obtain ⟨s2,rfl,r2⟩:=r2
    obtain ⟨y3,t3⟩:=hp 3 _ _ _ q3 rfl rfl
    obtain ⟨F3,z3,r3,-,w3⟩:=(mR vf) _ _ _ _ _ _ _ t3
    obtain ⟨rfl,rfl⟩:=r3
    obtain ⟨y4,t4⟩:=hp 4 _ _ _ q4 rfl rfl
    obtain ⟨F4,z4,r4,-,w4⟩:=(qG AY) _ _ _ _ _ _ _ t4
    obtain ⟨rfl,rfl⟩:=r4
    have R:cZ (Eng.hp w) _ cs (⟨z0,z1,z2,z3,z4⟩:bY):=⟨s2,F2,by rw [hps]; rfl,rfl,r2⟩
    exact ⟨_,_,R,cZ.knows _ _ _ _ R,⟨w0,w1,w2,w3,w4⟩⟩
theorem Kp {w:World}:Rdt af.prog w 91 bZ vr:=fun H enc sp held n cs x hx=>by
  obtain ⟨ps,n1,hps,hl,hp⟩:=dm (fl:=[(0,9,1),(1,3,1),(2,87,1),(3,88,1),(4,89,1)]) Li rfl KW hx
  match ps,hl with
  | [q0,q1,q2,q3,q4],_=>
    obtain ⟨y0,t0⟩:=hp 0 _ _ _ q0 rfl rfl
    obtain ⟨F0,z0,r0,-,w0⟩:=(qG AY) _ _ _ _ _ _ _ t0
    obtain ⟨rfl,rfl⟩:=r0
    obtain ⟨y1,t1⟩:=hp 1 _ _ _ q1 rfl rfl
    obtain ⟨F1,z1,r1,-,w1⟩:=(mR vf) _ _ _ _ _ _ _ t1
    obtain ⟨rfl,rfl⟩:=r1
    obtain ⟨y2,t2⟩:=hp 2 _ _ _ q2 rfl rfl
    obtain ⟨F2,z2,r2,-,w2⟩:=(f9 L6 JE rfl) _ _ _ _ _ _ _ t2
    obtain ⟨s2,rfl,r2⟩:=r2
    obtain ⟨y3,t3⟩:=hp 3 _ _ _ q3 rfl rfl
    obtain ⟨F3,z3,r3,-,w3⟩:=(f9 KC IT rfl) _ _ _ _ _ _ _ t3
    obtain ⟨s3,rfl,r3⟩:=r3
    obtain ⟨y4,t4⟩:=hp 4 _ _ _ q4 rfl rfl
    obtain ⟨F4,z4,r4,-,w4⟩:=(f9 Kg J7 rfl) _ _ _ _ _ _ _ t4
    obtain ⟨s4,rfl,r4⟩:=r4
    have R:bZ (Eng.hp w) _ cs (⟨z0,z1,z2,z3,z4⟩:ac):=⟨s2,F2,s3,F3,s4,F4,by rw [hps]; rfl,rfl,r2,r3,r4⟩
    exact ⟨_,_,R,bZ.knows _ _ _ _ R,⟨w0,w1,w2,w3,w4⟩⟩
theorem Kk {w:World}:Rdt af.prog w 24 ri AU:=fun H enc sp held n cs x hx=>by
  obtain ⟨ps,n1,hps,hl,hp⟩:=dm (fl:=[(0,9,1),(1,22,1)]) L5 rfl HL hx
  match ps,hl with
  | [q0,q1],_=>
    obtain ⟨y0,t0⟩:=hp 0 _ _ _ q0 rfl rfl
    obtain ⟨F0,z0,r0,-,w0⟩:=(qG AY) _ _ _ _ _ _ _ t0
    obtain ⟨rfl,rfl⟩:=r0
    obtain ⟨y1,t1⟩:=hp 1 _ _ _ q1 rfl rfl
    obtain ⟨F1,z1,r1,-,w1⟩:=(f9 Kh Kp rfl) _ _ _ _ _ _ _ t1
    obtain ⟨s1,rfl,r1⟩:=r1
    have R:ri (Eng.hp w) _ cs (⟨z0,z1⟩:bi):=⟨s1,F1,by rw [hps]; rfl,rfl,r1⟩
    exact ⟨_,_,R,ri.knows _ _ _ _ R,⟨w0,w1⟩⟩
theorem Ks {w:World}:Rdt af.prog w 93 dv AL:=fun H enc sp held n cs x hx=>by
  obtain ⟨ps,n1,hps,hl,hp⟩:=dm (fl:=[(0,67,1)]) Km rfl Lh hx
  match ps,hl with
  | [q0],_=>
    obtain ⟨y0,t0⟩:=hp 0 _ _ _ q0 rfl rfl
    obtain ⟨F0,z0,r0,-,w0⟩:=(f9 bE (mR vf) rfl) _ _ _ _ _ _ _ t0
    obtain ⟨s0,rfl,r0⟩:=r0
    have R:dv (Eng.hp w) _ cs (⟨z0⟩:aR):=⟨s0,F0,by rw [hps]; rfl,rfl,r0⟩
    exact ⟨_,_,R,dv.knows _ _ _ _ R,w0⟩
theorem Ji {w:World}:Rdt af.prog w 301 bD vT:=fun H enc sp held n cs x hx=>by
  obtain ⟨ps,n1,hps,hl,hp⟩:=dm (fl:=[(0,67,1),(1,67,1)]) IP rfl Js hx
  match ps,hl with
  | [q0,q1],_=>
    obtain ⟨y0,t0⟩:=hp 0 _ _ _ q0 rfl rfl
    obtain ⟨F0,z0,r0,-,w0⟩:=(f9 bE (mR vf) rfl) _ _ _ _ _ _ _ t0
    obtain ⟨s0,rfl,r0⟩:=r0
    obtain ⟨y1,t1⟩:=hp 1 _ _ _ q1 rfl rfl
    obtain ⟨F1,z1,r1,-,w1⟩:=(f9 bE (mR vf) rfl) _ _ _ _ _ _ _ t1
    obtain ⟨s1,rfl,r1⟩:=r1
    have R:bD (Eng.hp w) _ cs (⟨z0,z1⟩:aa):=⟨s0,F0,s1,F1,by rw [hps]; rfl,rfl,r0,r1⟩
    exact ⟨_,_,R,bD.knows _ _ _ _ R,⟨w0,w1⟩⟩
theorem JA {w:World}:Rdt af.prog w 225 cg rB:=fun H enc sp held n cs x hx=>by
  obtain ⟨ps,n1,hps,hl,hp⟩:=dm (fl:=[(0,223,1)]) JO rfl IB hx
  match ps,hl with
  | [q0],_=>
    obtain ⟨y0,t0⟩:=hp 0 _ _ _ q0 rfl rfl
    obtain ⟨F0,z0,r0,-,w0⟩:=(f9 JI Ji rfl) _ _ _ _ _ _ _ t0
    obtain ⟨s0,rfl,r0⟩:=r0
    have R:cg (Eng.hp w) _ cs (⟨z0⟩:ab):=⟨s0,F0,by rw [hps]; rfl,rfl,r0⟩
    exact ⟨_,_,R,cg.knows _ _ _ _ R,w0⟩
theorem L9 {w:World}:Rdt af.prog w 97 fm Az:=fun H enc sp held n cs x hx=>by
  obtain ⟨ps,n1,hps,hl,hp⟩:=dm (fl:=[(0,95,1)]) Kx rfl KF hx
  match ps,hl with
  | [q0],_=>
    obtain ⟨y0,t0⟩:=hp 0 _ _ _ q0 rfl rfl
    obtain ⟨F0,z0,r0,-,w0⟩:=(f9 KA JA rfl) _ _ _ _ _ _ _ t0
    obtain ⟨s0,rfl,r0⟩:=r0
    have R:fm (Eng.hp w) _ cs (⟨z0⟩:aG):=⟨s0,F0,by rw [hps]; rfl,rfl,r0⟩
    exact ⟨_,_,R,fm.knows _ _ _ _ R,w0⟩
theorem L4 {w:World}:Rdt af.prog w 28 rk AV:=fun H enc sp held n cs x hx=>by
  obtain ⟨ps,n1,hps,hl,hp⟩:=dm (fl:=[(0,25,1),(1,26,1)]) Lf rfl HR hx
  match ps,hl with
  | [q0,q1],_=>
    obtain ⟨y0,t0⟩:=hp 0 _ _ _ q0 rfl rfl
    obtain ⟨F0,z0,r0,-,w0⟩:=(f9 KH Ks rfl) _ _ _ _ _ _ _ t0
    obtain ⟨s0,rfl,r0⟩:=r0
    obtain ⟨y1,t1⟩:=hp 1 _ _ _ q1 rfl rfl
    obtain ⟨F1,z1,r1,-,w1⟩:=(f9 KV L9 rfl) _ _ _ _ _ _ _ t1
    obtain ⟨s1,rfl,r1⟩:=r1
    have R:rk (Eng.hp w) _ cs (⟨z0,z1⟩:aK):=⟨s0,F0,s1,F1,by rw [hps]; rfl,rfl,r0,r1⟩
    exact ⟨_,_,R,rk.knows _ _ _ _ R,⟨w0,w1⟩⟩
theorem Jz {w:World}:Rdt af.prog w 101 mN AQ:=fun H enc sp held n cs x hx=>by
  obtain ⟨ps,n1,hps,hl,hp⟩:=dm (fl:=[(0,9,1),(1,99,1)]) Jc rfl Jk hx
  match ps,hl with
  | [q0,q1],_=>
    obtain ⟨y0,t0⟩:=hp 0 _ _ _ q0 rfl rfl
    obtain ⟨F0,z0,r0,-,w0⟩:=(qG AY) _ _ _ _ _ _ _ t0
    obtain ⟨rfl,rfl⟩:=r0
    obtain ⟨y1,t1⟩:=hp 1 _ _ _ q1 rfl rfl
    obtain ⟨F1,z1,r1,-,w1⟩:=(f9 Lk Ft rfl) _ _ _ _ _ _ _ t1
    obtain ⟨s1,rfl,r1⟩:=r1
    have R:mN (Eng.hp w) _ cs (⟨z0,z1⟩:aw):=⟨s1,F1,by rw [hps]; rfl,rfl,r1⟩
    exact ⟨_,_,R,mN.knows _ _ _ _ R,⟨w0,w1⟩⟩
theorem JW {w:World}:Rdt af.prog w 103 bo vp:=fun H enc sp held n cs x hx=>by
  obtain ⟨ps,n1,hps,hl,hp⟩:=dm (fl:=[(0,3,1),(1,101,2)]) IM rfl JH hx
  match ps,hl with
  | [q0,q1],_=>
    obtain ⟨y0,t0⟩:=hp 0 _ _ _ q0 rfl rfl
    obtain ⟨F0,z0,r0,-,w0⟩:=(mR vf) _ _ _ _ _ _ _ t0
    obtain ⟨rfl,rfl⟩:=r0
    obtain ⟨y1,t1⟩:=hp 1 _ _ _ q1 rfl rfl
    obtain ⟨F1,z1,r1,-,w1⟩:=Jz _ _ _ _ _ _ _ t1
    obtain ⟨s1_0,G1_0,rfl,rfl,h1_0⟩:=r1
    have R:bo (Eng.hp w) _ cs (⟨z0,z1⟩:ao):=⟨s1_0,F1,by rw [hps]; rfl,rfl,h1_0⟩
    exact ⟨_,_,R,bo.knows _ _ _ _ R,⟨w0,w1⟩⟩
theorem Kv {w:World}:Rdt af.prog w 31 ju tN:=fun H enc sp held n cs x hx=>by
  obtain ⟨ps,n1,hps,hl,hp⟩:=dm (fl:=[(0,29,1),(1,3,1)]) Kr rfl I1 hx
  match ps,hl with
  | [q0,q1],_=>
    obtain ⟨y0,t0⟩:=hp 0 _ _ _ q0 rfl rfl
    obtain ⟨F0,z0,r0,-,w0⟩:=(f9 KO JW rfl) _ _ _ _ _ _ _ t0
    obtain ⟨s0,rfl,r0⟩:=r0
    obtain ⟨y1,t1⟩:=hp 1 _ _ _ q1 rfl rfl
    obtain ⟨F1,z1,r1,-,w1⟩:=(mR vf) _ _ _ _ _ _ _ t1
    obtain ⟨rfl,rfl⟩:=r1
    have R:ju (Eng.hp w) _ cs (⟨z0,z1⟩:ae):=⟨s0,F0,by rw [hps]; rfl,rfl,r0⟩
    exact ⟨_,_,R,ju.knows _ _ _ _ R,⟨w0,w1⟩⟩
theorem own:ownKnob af.prog.godebug=none:=by kernel_rfl
theorem BA:laidOutB af.prog=true:=by kernel_rfl
set_option maxRecDepth 100000 in
theorem lifted (os:Os) (started:os.Started) (H:Type) (enc:TypeId × Value→H) :
    ReturnsInHanded {} af.checked os 3 .any (Rows.fnExactMemSoundSpec.pre6 enc af.prog af.f3 Rows.fnExactMemSoundRow.domain false) (Rows.fnExactMemSoundSpec.post enc af.prog af.f3 false true false false):=by
  refine returnsInHanded_of_change (C:=af.checked) own started (by kernel_rfl) af.func3
    (ChangeSpec.witness6 (enc:=enc) (C:=af.checked) false ⟨#[],#[.agg #[.string ⟨#[]⟩,.slice none 0 0],.agg #[.slice none 0 0,.slice none 0 0],.agg #[.slice none 0 0,.int .i64 0]],[]⟩ 8 (by kernel_rfl) (by kernel_rfl) (by kernel_rfl) (by kernel_rfl)) ?_
  intro W base args ds gs before hval0 hW hcnd _
  have hval:∀ (j:Nat) t v,af.f3.params[j]?=some t→args[j]?=some v→Value.okWide af.prog W .any base t v:=hval0
  have hW':=hW
  obtain ⟨p,q,hA0,hV,rfl,hfz,hnd⟩:=hW
  have hA:DataW.TrodAll enc af.prog W 0 (fun _=>true) true af.f3.params.toList args.toList ds p:=hA0
  rw [af.params3] at hA hval
  obtain ⟨v0,vs0,d0,ds0,p0,q0,hargs,rfl,rfl,h0,r0⟩:=trodAll_cons hA
  obtain ⟨v1,vs1,d1,ds1,p1,q1,rfl,rfl,rfl,h1,r1⟩:=trodAll_cons r0
  obtain ⟨v2,vs2,d2,ds2,p2,q2,rfl,rfl,rfl,h2,r2⟩:=trodAll_cons r1
  obtain ⟨rfl,rfl,rfl⟩:=trodAll_nil r2
  obtain rfl:args = #[v0,v1,v2]:=by cases args; simp_all
  obtain ⟨rfl,rfl⟩:=trodVars_none hV
  have k0:=h0
  have lt0:∀ x∈p0,x.block < W.heap.size:=by obtain ⟨m,hm⟩:=k0; exact DataW.trod_lt m _ _ _ hm
  have k1:=h1
  have lt1:∀ x∈p1,x.block < W.heap.size:=by obtain ⟨m,hm⟩:=k1; exact DataW.trod_lt m _ _ _ hm
  have k2:=h2
  have lt2:∀ x∈p2,x.block < W.heap.size:=by obtain ⟨m,hm⟩:=k2; exact DataW.trod_lt m _ _ _ hm
  obtain ⟨m0,hm0⟩:=h0
  obtain ⟨G0,x0,e0,-,w0⟩:=Kk _ _ _ _ _ _ _ hm0
  obtain ⟨cs0,rfl⟩:=Dw (hval 0 24 v0 rfl rfl) HL (by kernel_rfl)
  obtain ⟨s0_0,F0_0,hc0,-,q0_0⟩:=e0
  obtain rfl:=uj hc0
  obtain ⟨m1,hm1⟩:=h1
  obtain ⟨G1,x1,e1,-,w1⟩:=L4 _ _ _ _ _ _ _ hm1
  obtain ⟨cs1,rfl⟩:=Dw (hval 1 28 v1 rfl rfl) HR (by kernel_rfl)
  obtain ⟨s1_0,F1_0,s1_1,F1_1,hc1,-,q1_0,q1_1⟩:=e1
  obtain rfl:=uj hc1
  obtain ⟨m2,hm2⟩:=h2
  obtain ⟨G2,x2,e2,-,w2⟩:=Kv _ _ _ _ _ _ _ hm2
  obtain ⟨cs2,rfl⟩:=Dw (hval 2 31 v2 rfl rfl) I1 (by kernel_rfl)
  obtain ⟨s2_0,F2_0,hc2,-,q2_0⟩:=e2
  obtain rfl:=uj hc2
  clear hA0 hval0
  refine (qX 1099511627776 (ba (Kb W)) x0 x1 x2 q0_0 q1_0 q1_1 q2_0 (law w0 w1 w2)).mono fun e W1 ⟨he,bel⟩=>?_
  subst he
  replace bel:=bel.toBelow
  exact ⟨_,rfl,_,_,_,[],_,[],hW',trodAll_mk1 (shut_bool (by kernel_rfl:af.prog.underlying 4=some .bool) _),(trodAll_cons_mk (Below.trod BA (by kernel_rfl) (of_decide_eq_true (by kernel_rfl)) k0 bel lt0) (trodAll_cons_mk (Below.trod BA (by kernel_rfl) (of_decide_eq_true (by kernel_rfl)) k1 bel lt1) (trodAll_cons_mk (Below.trod BA (by kernel_rfl) (of_decide_eq_true (by kernel_rfl)) k2 bel lt2) trodAll_mk0))),rfl,bel.frame _,fun h=>by cases h⟩

theorem named:af.pinned.checked.prog.funcNamed Rows.fnExactMemSoundRow.func=some 3:=by kernel_rfl
theorem jy {a b:Bool} (ha:a=true) (hb:b=true):(a && b)=true:=by rw [ha,hb]; rfl
theorem cl0:(Rows.fnExactMemSoundRow.wf (OpenSpec.ofChange Rows.fnExactMemSoundSpec))=true:=by kernel_rfl
theorem cl1:(laidOutB af.pinned.checked.prog)=true:=by kernel_rfl
theorem cl2:(mapsRowed af.pinned.checked.prog)=true:=by kernel_rfl
theorem cl3:(af.f3.params.all (af.pinned.checked.prog.readableRec ·))=true:=by kernel_rfl
theorem cl4:(namedTie af.pinned.checked.prog Rows.fnExactMemSoundRow.named Rows.fnExactMemSoundSpec.vars)=true:=by kernel_rfl
theorem cl5:((Rows.fnExactMemSoundRow.stops == []))=true:=by kernel_rfl
theorem cl6:((af.pinned.checked.prog.stops == []))=true:=by kernel_rfl
theorem cl7:((Rows.fnExactMemSoundRow.knobs == []))=true:=by kernel_rfl
theorem cl8:((af.pinned.checked.prog.stopKnobs == []))=true:=by kernel_rfl
theorem cl9:((Rows.fnExactMemSoundRow.inPlace == af.pinned.checked.prog.inPlace 3))=true:=by kernel_rfl
theorem LO:((Rows.fnExactMemSoundRow.unfollowed == af.pinned.checked.prog.unfollowed 3))=true:=by kernel_rfl
theorem LE:((Rows.fnExactMemSoundRow.recurses == af.pinned.checked.prog.recurses 3))=true:=by kernel_rfl
theorem Me:((Rows.fnExactMemSoundRow.named == af.pinned.checked.prog.varsNamed 3))=true:=by kernel_rfl
theorem Mb:((Rows.fnExactMemSoundRow.maps == (af.f3.params.toList++Rows.fnExactMemSoundSpec.plain.varTypes af.pinned.checked.prog).any (af.pinned.checked.prog.mapsRec ·)))=true:=by kernel_rfl
theorem Mf:((Rows.fnExactMemSoundRow.ifaces == (af.f3.params.toList++Rows.fnExactMemSoundSpec.plain.varTypes af.pinned.checked.prog).any (af.pinned.checked.prog.ifacesRec ·)))=true:=by kernel_rfl
theorem M7:((Rows.fnExactMemSoundRow.mapsOut == af.pinned.checked.prog.mapsAmong af.f3.resultTypes.toList))=true:=by kernel_rfl
theorem LT:((Rows.fnExactMemSoundRow.loops == (af.f3.params.toList++Rows.fnExactMemSoundSpec.plain.varTypes af.pinned.checked.prog).any (af.pinned.checked.prog.loopsFrom ·)))=true:=by kernel_rfl
theorem LW:((Rows.fnExactMemSoundRow.wideKeys == (af.f3.params.toList++Rows.fnExactMemSoundSpec.plain.varTypes af.pinned.checked.prog++af.f3.resultTypes.toList).any (af.pinned.checked.prog.wideKeysFrom ·)))=true:=by kernel_rfl
theorem M5:(Rows.fnExactMemSoundSpec.vars.all (af.pinned.checked.prog.varReadable ·))=true:=by kernel_rfl
theorem M3:(af.f3.resultTypes.all (fun t=>af.pinned.checked.prog.readableRec t && decide (t < af.pinned.checked.prog.types.size)))=true:=by kernel_rfl
theorem M8:((Rows.fnExactMemSoundRow.ifacesOut == af.f3.resultTypes.toList.any (af.pinned.checked.prog.ifacesRec ·)))=true:=by kernel_rfl
theorem LI:((Rows.fnExactMemSoundRow.loopsOut == af.f3.resultTypes.toList.any (af.pinned.checked.prog.loopsFrom ·)))=true:=by kernel_rfl
theorem Mg:((Rows.fnExactMemSoundRow.plainKeys == af.pinned.checked.prog.plainKeys))=true:=by kernel_rfl
theorem M0:(Rows.fnExactMemSoundRow.shortTexts.isNone)=true:=by kernel_rfl
theorem LC:(af.pinned.checked.prog.stopsHeard)=true:=by kernel_rfl
theorem LV:(af.pinned.checked.prog.mayEnter)=true:=by kernel_rfl
theorem LD:((Rows.fnExactMemSoundRow.lifted == af.pinned.checked.prog.liftsFinal))=true:=by kernel_rfl
theorem LN:((af.pinned.checked.prog.make == some Rows.fnExactMemSoundRow.make))=true:=by kernel_rfl
theorem LB:((Rows.fnExactMemSoundRow.kinds == (if Rows.fnExactMemSoundRow.domain.isEmpty then [] else af.f3.params.toList.map fun t=>match af.pinned.checked.prog.underlying t with | some (.int k)=>some k | _=>none)))=true:=by kernel_rfl
theorem LY:((Rows.fnExactMemSoundRow.pinned == Rows.fnExactMemSoundRow.pinnedBy))=true:=by kernel_rfl
theorem Lz:((Rows.fnExactMemSoundRow.veiled == (af.f3.params.toList++Rows.fnExactMemSoundSpec.plain.varTypes af.pinned.checked.prog++af.f3.resultTypes.toList).any (af.pinned.checked.prog.veiledRec ·)))=true:=by kernel_rfl
theorem LF:(Rows.fnExactMemSoundRow.veiledFits af.pinned.checked.prog af.f3.params.toList (af.f3.params.toList++Rows.fnExactMemSoundSpec.plain.varTypes af.pinned.checked.prog++af.f3.resultTypes.toList))=true:=by kernel_rfl
set_option maxRecDepth 100000 in
theorem IA:joinedFacts af.pinned.checked.prog 3 af.f3 Rows.fnExactMemSoundSpec Rows.fnExactMemSoundRow=true:=by
  unfold joinedFacts
  exact (jy (jy (jy (jy (jy (jy (jy (jy (jy (jy (jy (jy (jy (jy (jy (jy (jy (jy (jy (jy (jy (jy (jy (jy (jy (jy (jy (jy (jy (jy (jy cl0 cl1) cl2) cl3) cl4) cl5) cl6) cl7) cl8) cl9) LO) LE) Me) Mb) Mf) M7) LT) LW) M5) M3) M8) LI) Mg) M0) LC) LV) LD) LN) LB) LY) Lz) LF)
theorem inst:af.f3.isInstance af.pinned.checked.prog Rows.fnExactMemSoundRow.origin Rows.fnExactMemSoundRow.targs:=of_decide_eq_true (by kernel_rfl)
theorem Ho:af.f3.isWrapper af.pinned.checked.prog Rows.fnExactMemSoundRow.wrapper Rows.fnExactMemSoundRow.mainSum:=by unfold Func.isWrapper; first | (rw [if_pos (by decide +kernel)]; kernel_rfl) | (rw [if_neg (by decide +kernel)]; exact ⟨rfl,rfl⟩)
theorem M9:Rows.fnExactMemSoundRow.holds af.pinned (OpenSpec.ofChange Rows.fnExactMemSoundSpec):=
  OpenClaim.holds_of_wide 3 af.f3 rfl rfl rfl rfl rfl rfl rfl ⟨rfl,rfl,rfl,rfl,rfl⟩ rfl rfl rfl rfl rfl named af.func3 IA inst Ho
    (fun os started H enc _=>lifted os started H enc)

/-- The statement. -/
theorem proved:Rows.FnExactMemSoundSaid:=M9
#print axioms proved
end Go.Proofs.YtiljnppocjgkkaaGreat.fnExactMemSound
