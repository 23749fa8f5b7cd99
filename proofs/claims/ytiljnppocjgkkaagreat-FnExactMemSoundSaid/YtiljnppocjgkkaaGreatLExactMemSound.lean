/- The law FnExactMemSound: its arguments as data, and the step to the given row. The walk and the plain law come from the texts that are imported. -/
import Derived.Test.YtiljnppocjgkkaaGreatRows
import Derived.Test.YtiljnppocjgkkaaGreatEG
import Derived.Test.YtiljnppocjgkkaaGreatWExactMemSoundWalk
import Derived.Test.YtiljnppocjgkkaaGreatTExactMemSoundb
import Derived.OpenShut
import Derived.LaidLaws
import Derived.Handed
import Derived.Lib.LaidTab
import Derived.ShutString
import Derived.ChangeOld
namespace Go.Proofs.YtiljnppocjgkkaaGreat.fnExactMemSound
open Eng
open Go.ChangeShapes Go.WideShapes Go.ChangeAt Go.RowKit
open Go.ChangeMaps (open_string shut_string)
set_option linter.unusedVariables false
set_option linter.unusedSimpArgs false

theorem Bg:Tryz.prog.underlying 9=some (.string):=by kernel_rfl
theorem uU:Tryz.prog.underlying 3=some (.int .i64):=by kernel_rfl
theorem J5:iv Tryz.prog 213=some [(0,3,1),(1,3,1),(2,9,1)]:=by kernel_rfl
theorem IZ:Sz Tryz.prog 213 3=true:=by kernel_rfl
theorem JC:iv Tryz.prog 215=some [(0,3,1),(1,9,1),(2,213,3)]:=by kernel_rfl
theorem Ig:Sz Tryz.prog 215 5=true:=by kernel_rfl
theorem IS:Sl Tryz.prog 209 215 5=true:=by kernel_rfl
theorem M4:Tryz.prog.underlying 4=some (.bool):=by kernel_rfl
theorem IQ:iv Tryz.prog 211=some [(0,9,1),(1,209,1),(2,4,1)]:=by kernel_rfl
theorem IC:Sz Tryz.prog 211 3=true:=by kernel_rfl
theorem KG:Sl Tryz.prog 87 211 3=true:=by kernel_rfl
theorem J6:iv Tryz.prog 217=some [(0,3,1),(1,215,5),(6,215,5)]:=by kernel_rfl
theorem Jh:Sz Tryz.prog 217 11=true:=by kernel_rfl
theorem KO:Sl Tryz.prog 88 217 11=true:=by kernel_rfl
theorem ID:iv Tryz.prog 299=some [(0,9,1),(1,215,5),(6,215,5)]:=by kernel_rfl
theorem JS:Sz Tryz.prog 299 11=true:=by kernel_rfl
theorem IF:Sl Tryz.prog 219 299 11=true:=by kernel_rfl
theorem JB:iv Tryz.prog 221=some [(0,3,1),(1,9,1),(2,219,1),(3,3,1),(4,9,1)]:=by kernel_rfl
theorem IE:Sz Tryz.prog 221 5=true:=by kernel_rfl
theorem KA:Sl Tryz.prog 89 221 5=true:=by kernel_rfl
theorem Kp:iv Tryz.prog 91=some [(0,9,1),(1,3,1),(2,87,1),(3,88,1),(4,89,1)]:=by kernel_rfl
theorem Km:Sz Tryz.prog 91 5=true:=by kernel_rfl
theorem L0:Sl Tryz.prog 22 91 5=true:=by kernel_rfl
theorem L3:iv Tryz.prog 24=some [(0,9,1),(1,22,1)]:=by kernel_rfl
theorem HU:Sz Tryz.prog 24 2=true:=by kernel_rfl
theorem bD:Sl Tryz.prog 67 3 1=true:=by kernel_rfl
theorem K7:iv Tryz.prog 93=some [(0,67,1)]:=by kernel_rfl
theorem Lg:Sz Tryz.prog 93 1=true:=by kernel_rfl
theorem Ke:Sl Tryz.prog 25 93 1=true:=by kernel_rfl
theorem IG:iv Tryz.prog 301=some [(0,67,1),(1,67,1)]:=by kernel_rfl
theorem Ii:Sz Tryz.prog 301 2=true:=by kernel_rfl
theorem J8:Sl Tryz.prog 223 301 2=true:=by kernel_rfl
theorem J2:iv Tryz.prog 225=some [(0,223,1)]:=by kernel_rfl
theorem Ij:Sz Tryz.prog 225 1=true:=by kernel_rfl
theorem Le:Sl Tryz.prog 95 225 1=true:=by kernel_rfl
theorem Lf:iv Tryz.prog 97=some [(0,95,1)]:=by kernel_rfl
theorem Ka:Sz Tryz.prog 97 1=true:=by kernel_rfl
theorem KZ:Sl Tryz.prog 26 97 1=true:=by kernel_rfl
theorem L8:iv Tryz.prog 28=some [(0,25,1),(1,26,1)]:=by kernel_rfl
theorem HZ:Sz Tryz.prog 28 2=true:=by kernel_rfl
theorem Kj:Sl Tryz.prog 99 213 3=true:=by kernel_rfl
theorem Jg:iv Tryz.prog 101=some [(0,9,1),(1,99,1)]:=by kernel_rfl
theorem IL:Sz Tryz.prog 101 2=true:=by kernel_rfl
theorem IY:iv Tryz.prog 103=some [(0,3,1),(1,101,2)]:=by kernel_rfl
theorem Ib:Sz Tryz.prog 103 3=true:=by kernel_rfl
theorem Ku:Sl Tryz.prog 29 103 3=true:=by kernel_rfl
theorem Kx:iv Tryz.prog 31=some [(0,29,1),(1,3,1)]:=by kernel_rfl
theorem HJ:Sz Tryz.prog 31 2=true:=by kernel_rfl
theorem Gh {w:World}:Rdt Tryz.prog w 213 aD wU:=fun H enc sp held n cs x hx=>by
  obtain ⟨ps,n1,hps,hl,hp⟩:=dm (fl:=[(0,3,1),(1,3,1),(2,9,1)]) J5 rfl IZ hx
  match ps,hl with
  | [q0,q1,q2],_=>
    obtain ⟨y0,t0⟩:=hp 0 _ _ _ q0 rfl rfl
    obtain ⟨F0,z0,r0,-,w0⟩:=(mM uU) _ _ _ _ _ _ _ t0
    obtain ⟨rfl,rfl⟩:=r0
    obtain ⟨y1,t1⟩:=hp 1 _ _ _ q1 rfl rfl
    obtain ⟨F1,z1,r1,-,w1⟩:=(mM uU) _ _ _ _ _ _ _ t1
    obtain ⟨rfl,rfl⟩:=r1
    obtain ⟨y2,t2⟩:=hp 2 _ _ _ q2 rfl rfl
    obtain ⟨F2,z2,r2,-,w2⟩:=(qS Bg) _ _ _ _ _ _ _ t2
    obtain ⟨rfl,rfl⟩:=r2
    have R:aD (Eng.hp w) _ cs (⟨z0,z1,z2⟩:aP):=⟨by rw [hps]; rfl,rfl⟩
    exact ⟨_,_,R,aD.knows _ _ _ _ R,⟨w0,w1,w2⟩⟩
theorem vT {w:World}:Rdt Tryz.prog w 215 cu rp:=fun H enc sp held n cs x hx=>by
  obtain ⟨ps,n1,hps,hl,hp⟩:=dm (fl:=[(0,3,1),(1,9,1),(2,213,3)]) JC rfl Ig hx
  match ps,hl with
  | [q0,q1,q2],_=>
    obtain ⟨y0,t0⟩:=hp 0 _ _ _ q0 rfl rfl
    obtain ⟨F0,z0,r0,-,w0⟩:=(mM uU) _ _ _ _ _ _ _ t0
    obtain ⟨rfl,rfl⟩:=r0
    obtain ⟨y1,t1⟩:=hp 1 _ _ _ q1 rfl rfl
    obtain ⟨F1,z1,r1,-,w1⟩:=(qS Bg) _ _ _ _ _ _ _ t1
    obtain ⟨rfl,rfl⟩:=r1
    obtain ⟨y2,t2⟩:=hp 2 _ _ _ q2 rfl rfl
    obtain ⟨F2,z2,r2,-,w2⟩:=Gh _ _ _ _ _ _ _ t2
    obtain ⟨rfl,rfl⟩:=r2
    have R:cu (Eng.hp w) _ cs (⟨z0,z1,z2⟩:bk):=⟨by rw [hps]; rfl,rfl⟩
    exact ⟨_,_,R,cu.knows _ _ _ _ R,⟨w0,w1,w2⟩⟩
theorem Jw {w:World}:Rdt Tryz.prog w 211 bt Bm:=fun H enc sp held n cs x hx=>by
  obtain ⟨ps,n1,hps,hl,hp⟩:=dm (fl:=[(0,9,1),(1,209,1),(2,4,1)]) IQ rfl IC hx
  match ps,hl with
  | [q0,q1,q2],_=>
    obtain ⟨y0,t0⟩:=hp 0 _ _ _ q0 rfl rfl
    obtain ⟨F0,z0,r0,-,w0⟩:=(qS Bg) _ _ _ _ _ _ _ t0
    obtain ⟨rfl,rfl⟩:=r0
    obtain ⟨y1,t1⟩:=hp 1 _ _ _ q1 rfl rfl
    obtain ⟨F1,z1,r1,-,w1⟩:=(f8 IS vT rfl) _ _ _ _ _ _ _ t1
    obtain ⟨s1,rfl,r1⟩:=r1
    obtain ⟨y2,t2⟩:=hp 2 _ _ _ q2 rfl rfl
    obtain ⟨F2,z2,r2,-,w2⟩:=(Hj M4) _ _ _ _ _ _ _ t2
    obtain ⟨rfl,rfl⟩:=r2
    have R:bt (Eng.hp w) _ cs (⟨z0,z1,z2⟩:ao):=⟨s1,F1,by rw [hps]; rfl,rfl,r1⟩
    exact ⟨_,_,R,bt.knows _ _ _ _ R,⟨w0,w1,w2⟩⟩
theorem Iz {w:World}:Rdt Tryz.prog w 217 bl vh:=fun H enc sp held n cs x hx=>by
  obtain ⟨ps,n1,hps,hl,hp⟩:=dm (fl:=[(0,3,1),(1,215,5),(6,215,5)]) J6 rfl Jh hx
  match ps,hl with
  | [q0,q1,q2],_=>
    obtain ⟨y0,t0⟩:=hp 0 _ _ _ q0 rfl rfl
    obtain ⟨F0,z0,r0,-,w0⟩:=(mM uU) _ _ _ _ _ _ _ t0
    obtain ⟨rfl,rfl⟩:=r0
    obtain ⟨y1,t1⟩:=hp 1 _ _ _ q1 rfl rfl
    obtain ⟨F1,z1,r1,-,w1⟩:=vT _ _ _ _ _ _ _ t1
    obtain ⟨rfl,rfl⟩:=r1
    obtain ⟨y2,t2⟩:=hp 2 _ _ _ q2 rfl rfl
    obtain ⟨F2,z2,r2,-,w2⟩:=vT _ _ _ _ _ _ _ t2
    obtain ⟨rfl,rfl⟩:=r2
    have R:bl (Eng.hp w) _ cs (⟨z0,z1,z2⟩:bz):=⟨by rw [hps]; rfl,rfl⟩
    exact ⟨_,_,R,bl.knows _ _ _ _ R,⟨w0,w1,w2⟩⟩
theorem Jm {w:World}:Rdt Tryz.prog w 299 cn vg:=fun H enc sp held n cs x hx=>by
  obtain ⟨ps,n1,hps,hl,hp⟩:=dm (fl:=[(0,9,1),(1,215,5),(6,215,5)]) ID rfl JS hx
  match ps,hl with
  | [q0,q1,q2],_=>
    obtain ⟨y0,t0⟩:=hp 0 _ _ _ q0 rfl rfl
    obtain ⟨F0,z0,r0,-,w0⟩:=(qS Bg) _ _ _ _ _ _ _ t0
    obtain ⟨rfl,rfl⟩:=r0
    obtain ⟨y1,t1⟩:=hp 1 _ _ _ q1 rfl rfl
    obtain ⟨F1,z1,r1,-,w1⟩:=vT _ _ _ _ _ _ _ t1
    obtain ⟨rfl,rfl⟩:=r1
    obtain ⟨y2,t2⟩:=hp 2 _ _ _ q2 rfl rfl
    obtain ⟨F2,z2,r2,-,w2⟩:=vT _ _ _ _ _ _ _ t2
    obtain ⟨rfl,rfl⟩:=r2
    have R:cn (Eng.hp w) _ cs (⟨z0,z1,z2⟩:br):=⟨by rw [hps]; rfl,rfl⟩
    exact ⟨_,_,R,cn.knows _ _ _ _ R,⟨w0,w1,w2⟩⟩
theorem JT {w:World}:Rdt Tryz.prog w 221 cX BF:=fun H enc sp held n cs x hx=>by
  obtain ⟨ps,n1,hps,hl,hp⟩:=dm (fl:=[(0,3,1),(1,9,1),(2,219,1),(3,3,1),(4,9,1)]) JB rfl IE hx
  match ps,hl with
  | [q0,q1,q2,q3,q4],_=>
    obtain ⟨y0,t0⟩:=hp 0 _ _ _ q0 rfl rfl
    obtain ⟨F0,z0,r0,-,w0⟩:=(mM uU) _ _ _ _ _ _ _ t0
    obtain ⟨rfl,rfl⟩:=r0
    obtain ⟨y1,t1⟩:=hp 1 _ _ _ q1 rfl rfl
    obtain ⟨F1,z1,r1,-,w1⟩:=(qS Bg) _ _ _ _ _ _ _ t1
    obtain ⟨rfl,rfl⟩:=r1
    obtain ⟨y2,t2⟩:=hp 2 _ _ _ q2 rfl rfl
    obtain ⟨F2,z2,r2,-,w2⟩:=(f8 IF Jm rfl) _ _ _ _ _ _ _ t2
    obtain ⟨s2,rfl,r2⟩:=r2
    obtain ⟨y3,t3⟩:=hp 3 _ _ _ q3 rfl rfl
    obtain ⟨F3,z3,r3,-,w3⟩:=(mM uU) _ _ _ _ _ _ _ t3
    obtain ⟨rfl,rfl⟩:=r3
    obtain ⟨y4,t4⟩:=hp 4 _ _ _ q4 rfl rfl
    obtain ⟨F4,z4,r4,-,w4⟩:=(qS Bg) _ _ _ _ _ _ _ t4
    obtain ⟨rfl,rfl⟩:=r4
    have R:cX (Eng.hp w) _ cs (⟨z0,z1,z2,z3,z4⟩:bX):=⟨s2,F2,by rw [hps]; rfl,rfl,r2⟩
    exact ⟨_,_,R,cX.knows _ _ _ _ R,⟨w0,w1,w2,w3,w4⟩⟩
theorem Kr {w:World}:Rdt Tryz.prog w 91 bV vi:=fun H enc sp held n cs x hx=>by
  obtain ⟨ps,n1,hps,hl,hp⟩:=dm (fl:=[(0,9,1),(1,3,1),(2,87,1),(3,88,1),(4,89,1)]) Kp rfl Km hx
  match ps,hl with
  | [q0,q1,q2,q3,q4],_=>
    obtain ⟨y0,t0⟩:=hp 0 _ _ _ q0 rfl rfl
    obtain ⟨F0,z0,r0,-,w0⟩:=(qS Bg) _ _ _ _ _ _ _ t0
    obtain ⟨rfl,rfl⟩:=r0
    obtain ⟨y1,t1⟩:=hp 1 _ _ _ q1 rfl rfl
    obtain ⟨F1,z1,r1,-,w1⟩:=(mM uU) _ _ _ _ _ _ _ t1
    obtain ⟨rfl,rfl⟩:=r1
    obtain ⟨y2,t2⟩:=hp 2 _ _ _ q2 rfl rfl
    obtain ⟨F2,z2,r2,-,w2⟩:=(f8 KG Jw rfl) _ _ _ _ _ _ _ t2
    obtain ⟨s2,rfl,r2⟩:=r2
    obtain ⟨y3,t3⟩:=hp 3 _ _ _ q3 rfl rfl
    obtain ⟨F3,z3,r3,-,w3⟩:=(f8 KO Iz rfl) _ _ _ _ _ _ _ t3
    obtain ⟨s3,rfl,r3⟩:=r3
    obtain ⟨y4,t4⟩:=hp 4 _ _ _ q4 rfl rfl
    obtain ⟨F4,z4,r4,-,w4⟩:=(f8 KA JT rfl) _ _ _ _ _ _ _ t4
    obtain ⟨s4,rfl,r4⟩:=r4
    have R:bV (Eng.hp w) _ cs (⟨z0,z1,z2,z3,z4⟩:ac):=⟨s2,F2,s3,F3,s4,F4,by rw [hps]; rfl,rfl,r2,r3,r4⟩
    exact ⟨_,_,R,bV.knows _ _ _ _ R,⟨w0,w1,w2,w3,w4⟩⟩
theorem K8 {w:World}:Rdt Tryz.prog w 24 ri Bj:=fun H enc sp held n cs x hx=>by
  obtain ⟨ps,n1,hps,hl,hp⟩:=dm (fl:=[(0,9,1),(1,22,1)]) L3 rfl HU hx
  match ps,hl with
  | [q0,q1],_=>
    obtain ⟨y0,t0⟩:=hp 0 _ _ _ q0 rfl rfl
    obtain ⟨F0,z0,r0,-,w0⟩:=(qS Bg) _ _ _ _ _ _ _ t0
    obtain ⟨rfl,rfl⟩:=r0
    obtain ⟨y1,t1⟩:=hp 1 _ _ _ q1 rfl rfl
    obtain ⟨F1,z1,r1,-,w1⟩:=(f8 L0 Kr rfl) _ _ _ _ _ _ _ t1
    obtain ⟨s1,rfl,r1⟩:=r1
    have R:ri (Eng.hp w) _ cs (⟨z0,z1⟩:bh):=⟨s1,F1,by rw [hps]; rfl,rfl,r1⟩
    exact ⟨_,_,R,ri.knows _ _ _ _ R,⟨w0,w1⟩⟩
theorem L6 {w:World}:Rdt Tryz.prog w 93 dp BH:=fun H enc sp held n cs x hx=>by
  obtain ⟨ps,n1,hps,hl,hp⟩:=dm (fl:=[(0,67,1)]) K7 rfl Lg hx
  match ps,hl with
  | [q0],_=>
    obtain ⟨y0,t0⟩:=hp 0 _ _ _ q0 rfl rfl
    obtain ⟨F0,z0,r0,-,w0⟩:=(f8 bD (mM uU) rfl) _ _ _ _ _ _ _ t0
    obtain ⟨s0,rfl,r0⟩:=r0
    have R:dp (Eng.hp w) _ cs (⟨z0⟩:aQ):=⟨s0,F0,by rw [hps]; rfl,rfl,r0⟩
    exact ⟨_,_,R,dp.knows _ _ _ _ R,w0⟩
theorem JR {w:World}:Rdt Tryz.prog w 301 bC xl:=fun H enc sp held n cs x hx=>by
  obtain ⟨ps,n1,hps,hl,hp⟩:=dm (fl:=[(0,67,1),(1,67,1)]) IG rfl Ii hx
  match ps,hl with
  | [q0,q1],_=>
    obtain ⟨y0,t0⟩:=hp 0 _ _ _ q0 rfl rfl
    obtain ⟨F0,z0,r0,-,w0⟩:=(f8 bD (mM uU) rfl) _ _ _ _ _ _ _ t0
    obtain ⟨s0,rfl,r0⟩:=r0
    obtain ⟨y1,t1⟩:=hp 1 _ _ _ q1 rfl rfl
    obtain ⟨F1,z1,r1,-,w1⟩:=(f8 bD (mM uU) rfl) _ _ _ _ _ _ _ t1
    obtain ⟨s1,rfl,r1⟩:=r1
    have R:bC (Eng.hp w) _ cs (⟨z0,z1⟩:aa):=⟨s0,F0,s1,F1,by rw [hps]; rfl,rfl,r0,r1⟩
    exact ⟨_,_,R,bC.knows _ _ _ _ R,⟨w0,w1⟩⟩
theorem IM {w:World}:Rdt Tryz.prog w 225 cc rW:=fun H enc sp held n cs x hx=>by
  obtain ⟨ps,n1,hps,hl,hp⟩:=dm (fl:=[(0,223,1)]) J2 rfl Ij hx
  match ps,hl with
  | [q0],_=>
    obtain ⟨y0,t0⟩:=hp 0 _ _ _ q0 rfl rfl
    obtain ⟨F0,z0,r0,-,w0⟩:=(f8 J8 JR rfl) _ _ _ _ _ _ _ t0
    obtain ⟨s0,rfl,r0⟩:=r0
    have R:cc (Eng.hp w) _ cs (⟨z0⟩:ab):=⟨s0,F0,by rw [hps]; rfl,rfl,r0⟩
    exact ⟨_,_,R,cc.knows _ _ _ _ R,w0⟩
theorem L9 {w:World}:Rdt Tryz.prog w 97 ff B8:=fun H enc sp held n cs x hx=>by
  obtain ⟨ps,n1,hps,hl,hp⟩:=dm (fl:=[(0,95,1)]) Lf rfl Ka hx
  match ps,hl with
  | [q0],_=>
    obtain ⟨y0,t0⟩:=hp 0 _ _ _ q0 rfl rfl
    obtain ⟨F0,z0,r0,-,w0⟩:=(f8 Le IM rfl) _ _ _ _ _ _ _ t0
    obtain ⟨s0,rfl,r0⟩:=r0
    have R:ff (Eng.hp w) _ cs (⟨z0⟩:aF):=⟨s0,F0,by rw [hps]; rfl,rfl,r0⟩
    exact ⟨_,_,R,ff.knows _ _ _ _ R,w0⟩
theorem KN {w:World}:Rdt Tryz.prog w 28 rj Bu:=fun H enc sp held n cs x hx=>by
  obtain ⟨ps,n1,hps,hl,hp⟩:=dm (fl:=[(0,25,1),(1,26,1)]) L8 rfl HZ hx
  match ps,hl with
  | [q0,q1],_=>
    obtain ⟨y0,t0⟩:=hp 0 _ _ _ q0 rfl rfl
    obtain ⟨F0,z0,r0,-,w0⟩:=(f8 Ke L6 rfl) _ _ _ _ _ _ _ t0
    obtain ⟨s0,rfl,r0⟩:=r0
    obtain ⟨y1,t1⟩:=hp 1 _ _ _ q1 rfl rfl
    obtain ⟨F1,z1,r1,-,w1⟩:=(f8 KZ L9 rfl) _ _ _ _ _ _ _ t1
    obtain ⟨s1,rfl,r1⟩:=r1
    have R:rj (Eng.hp w) _ cs (⟨z0,z1⟩:aJ):=⟨s0,F0,s1,F1,by rw [hps]; rfl,rfl,r0,r1⟩
    exact ⟨_,_,R,rj.knows _ _ _ _ R,⟨w0,w1⟩⟩
theorem IP {w:World}:Rdt Tryz.prog w 101 mI AL:=fun H enc sp held n cs x hx=>by
  obtain ⟨ps,n1,hps,hl,hp⟩:=dm (fl:=[(0,9,1),(1,99,1)]) Jg rfl IL hx
  match ps,hl with
  | [q0,q1],_=>
    obtain ⟨y0,t0⟩:=hp 0 _ _ _ q0 rfl rfl
    obtain ⟨F0,z0,r0,-,w0⟩:=(qS Bg) _ _ _ _ _ _ _ t0
    obtain ⟨rfl,rfl⟩:=r0
    obtain ⟨y1,t1⟩:=hp 1 _ _ _ q1 rfl rfl
    obtain ⟨F1,z1,r1,-,w1⟩:=(f8 Kj Gh rfl) _ _ _ _ _ _ _ t1
    obtain ⟨s1,rfl,r1⟩:=r1
    have R:mI (Eng.hp w) _ cs (⟨z0,z1⟩:av):=⟨s1,F1,by rw [hps]; rfl,rfl,r1⟩
    exact ⟨_,_,R,mI.knows _ _ _ _ R,⟨w0,w1⟩⟩
theorem Iq {w:World}:Rdt Tryz.prog w 103 bn vo:=fun H enc sp held n cs x hx=>by
  obtain ⟨ps,n1,hps,hl,hp⟩:=dm (fl:=[(0,3,1),(1,101,2)]) IY rfl Ib hx
  match ps,hl with
  | [q0,q1],_=>
    obtain ⟨y0,t0⟩:=hp 0 _ _ _ q0 rfl rfl
    obtain ⟨F0,z0,r0,-,w0⟩:=(mM uU) _ _ _ _ _ _ _ t0
    obtain ⟨rfl,rfl⟩:=r0
    obtain ⟨y1,t1⟩:=hp 1 _ _ _ q1 rfl rfl
    obtain ⟨F1,z1,r1,-,w1⟩:=IP _ _ _ _ _ _ _ t1
    obtain ⟨s1_0,G1_0,rfl,rfl,h1_0⟩:=r1
    have R:bn (Eng.hp w) _ cs (⟨z0,z1⟩:an):=⟨s1_0,F1,by rw [hps]; rfl,rfl,h1_0⟩
    exact ⟨_,_,R,bn.knows _ _ _ _ R,⟨w0,w1⟩⟩
theorem KF {w:World}:Rdt Tryz.prog w 31 jr tI:=fun H enc sp held n cs x hx=>by
  obtain ⟨ps,n1,hps,hl,hp⟩:=dm (fl:=[(0,29,1),(1,3,1)]) Kx rfl HJ hx
  match ps,hl with
  | [q0,q1],_=>
    obtain ⟨y0,t0⟩:=hp 0 _ _ _ q0 rfl rfl
    obtain ⟨F0,z0,r0,-,w0⟩:=(f8 Ku Iq rfl) _ _ _ _ _ _ _ t0
    obtain ⟨s0,rfl,r0⟩:=r0
    obtain ⟨y1,t1⟩:=hp 1 _ _ _ q1 rfl rfl
    obtain ⟨F1,z1,r1,-,w1⟩:=(mM uU) _ _ _ _ _ _ _ t1
    obtain ⟨rfl,rfl⟩:=r1
    have R:jr (Eng.hp w) _ cs (⟨z0,z1⟩:ae):=⟨s0,F0,by rw [hps]; rfl,rfl,r0⟩
    exact ⟨_,_,R,jr.knows _ _ _ _ R,⟨w0,w1⟩⟩
theorem own:ownKnob Tryz.prog.godebug=none:=by kernel_rfl
theorem Al:laidOutB Tryz.prog=true:=by kernel_rfl
set_option maxRecDepth 100000 in
theorem lifted (os:Os) (started:os.Started) (H:Type) (enc:TypeId × Value→H) :
    ReturnsInHanded {} Tryz.checked os 3 .any (Rows.fnExactMemSoundSpec.pre6 enc Tryz.prog Tryz.f3 Rows.fnExactMemSoundRow.domain false) (Rows.fnExactMemSoundSpec.post enc Tryz.prog Tryz.f3 false true false false):=by
  refine returnsInHanded_of_change (C:=Tryz.checked) own started (by kernel_rfl) Tryz.func3
    (ChangeSpec.witness6 (enc:=enc) (C:=Tryz.checked) false ⟨#[],#[.agg #[.string ⟨#[]⟩,.slice none 0 0],.agg #[.slice none 0 0,.slice none 0 0],.agg #[.slice none 0 0,.int .i64 0]],[]⟩ 8 (by kernel_rfl) (by kernel_rfl) (by kernel_rfl) (by kernel_rfl)) ?_
  intro W base args ds gs before hval0 hW hcnd _
  have hval:∀ (j:Nat) t v,Tryz.f3.params[j]?=some t→args[j]?=some v→Value.okWide Tryz.prog W .any base t v:=hval0
  have hW':=hW
  obtain ⟨p,q,hA0,hV,rfl,hfz,hnd⟩:=hW
  have hA:DataW.TrodAll enc Tryz.prog W 0 (fun _=>true) true Tryz.f3.params.toList args.toList ds p:=hA0
  rw [Tryz.params3] at hA hval
  obtain ⟨v0,vs0,d0,ds0,p0,q0,hargs,rfl,rfl,h0,r0⟩:=trodAll_cons hA
  obtain ⟨v1,vs1,d1,ds1,p1,q1,rfl,rfl,rfl,h1,r1⟩:=trodAll_cons r0
  obtain ⟨v2,vs2,d2,ds2,p2,q2,rfl,rfl,rfl,h2,r2⟩:=trodAll_cons r1
  obtain ⟨rfl,rfl,rfl⟩:=trodAll_nil r2
  obtain rfl:args = #[v0,v1,v2]:=by cases args; simp_all
  obtain ⟨rfl,rfl⟩:=trodVars_none hV
  have k0:=h0
  have lt0:∀ x∈p0,x.block < W.heap.size:=by obtain ⟨m,hm⟩:=k0; exact DataW.trod_lt m _ _ _ hm
  have k1:=h1
  have lt1:∀ x∈p1,x.block < W.heap.size:=by obtain ⟨m,hm⟩:=k1; exact DataW.trod_lt m _ _ _ hm
  have k2:=h2
  have lt2:∀ x∈p2,x.block < W.heap.size:=by obtain ⟨m,hm⟩:=k2; exact DataW.trod_lt m _ _ _ hm
  obtain ⟨m0,hm0⟩:=h0
  obtain ⟨G0,x0,e0,-,w0⟩:=K8 _ _ _ _ _ _ _ hm0
  obtain ⟨cs0,rfl⟩:=Da (hval 0 24 v0 rfl rfl) HU (by kernel_rfl)
  obtain ⟨s0_0,F0_0,hc0,-,q0_0⟩:=e0
  obtain rfl:=ur hc0
  obtain ⟨m1,hm1⟩:=h1
  obtain ⟨G1,x1,e1,-,w1⟩:=KN _ _ _ _ _ _ _ hm1
  obtain ⟨cs1,rfl⟩:=Da (hval 1 28 v1 rfl rfl) HZ (by kernel_rfl)
  obtain ⟨s1_0,F1_0,s1_1,F1_1,hc1,-,q1_0,q1_1⟩:=e1
  obtain rfl:=ur hc1
  obtain ⟨m2,hm2⟩:=h2
  obtain ⟨G2,x2,e2,-,w2⟩:=KF _ _ _ _ _ _ _ hm2
  obtain ⟨cs2,rfl⟩:=Da (hval 2 31 v2 rfl rfl) HJ (by kernel_rfl)
  obtain ⟨s2_0,F2_0,hc2,-,q2_0⟩:=e2
  obtain rfl:=ur hc2
  clear hA0 hval0
  refine (qX 1099511627776 (ba (KV W)) x0 x1 x2 q0_0 q1_0 q1_1 q2_0 (law w0 w1 w2)).mono fun e W1 ⟨he,bel⟩=>?_
  subst he
  replace bel:=bel.toBelow
  exact ⟨_,rfl,_,_,_,[],_,[],hW',trodAll_mk1 (shut_bool (by kernel_rfl:Tryz.prog.underlying 4=some .bool) _),(trodAll_cons_mk (Below.trod Al (by kernel_rfl) (of_decide_eq_true (by kernel_rfl)) k0 bel lt0) (trodAll_cons_mk (Below.trod Al (by kernel_rfl) (of_decide_eq_true (by kernel_rfl)) k1 bel lt1) (trodAll_cons_mk (Below.trod Al (by kernel_rfl) (of_decide_eq_true (by kernel_rfl)) k2 bel lt2) trodAll_mk0))),rfl,bel.frame _,fun h=>by cases h⟩

theorem named:Tryz.pinned.checked.prog.funcNamed Rows.fnExactMemSoundRow.func=some 3:=by kernel_rfl
theorem jz {a b:Bool} (ha:a=true) (hb:b=true):(a && b)=true:=by rw [ha,hb]; rfl
theorem cl0:(Rows.fnExactMemSoundRow.wf (OpenSpec.ofChange Rows.fnExactMemSoundSpec))=true:=by kernel_rfl
theorem cl1:(laidOutB Tryz.pinned.checked.prog)=true:=by kernel_rfl
theorem cl2:(mapsRowed Tryz.pinned.checked.prog)=true:=by kernel_rfl
theorem cl3:(Tryz.f3.params.all (Tryz.pinned.checked.prog.readableRec ·))=true:=by kernel_rfl
theorem cl4:(namedTie Tryz.pinned.checked.prog Rows.fnExactMemSoundRow.named Rows.fnExactMemSoundSpec.vars)=true:=by kernel_rfl
theorem cl5:((Rows.fnExactMemSoundRow.stops == []))=true:=by kernel_rfl
theorem cl6:((Tryz.pinned.checked.prog.stops == []))=true:=by kernel_rfl
theorem cl7:((Rows.fnExactMemSoundRow.knobs == []))=true:=by kernel_rfl
theorem cl8:((Tryz.pinned.checked.prog.stopKnobs == []))=true:=by kernel_rfl
theorem cl9:((Rows.fnExactMemSoundRow.inPlace == Tryz.pinned.checked.prog.inPlace 3))=true:=by kernel_rfl
theorem Mc:((Rows.fnExactMemSoundRow.unfollowed == Tryz.pinned.checked.prog.unfollowed 3))=true:=by kernel_rfl
theorem LD:((Rows.fnExactMemSoundRow.recurses == Tryz.pinned.checked.prog.recurses 3))=true:=by kernel_rfl
theorem LZ:((Rows.fnExactMemSoundRow.named == Tryz.pinned.checked.prog.varsNamed 3))=true:=by kernel_rfl
theorem LE:((Rows.fnExactMemSoundRow.maps == (Tryz.f3.params.toList++Rows.fnExactMemSoundSpec.plain.varTypes Tryz.pinned.checked.prog).any (Tryz.pinned.checked.prog.mapsRec ·)))=true:=by kernel_rfl
theorem M6:((Rows.fnExactMemSoundRow.ifaces == (Tryz.f3.params.toList++Rows.fnExactMemSoundSpec.plain.varTypes Tryz.pinned.checked.prog).any (Tryz.pinned.checked.prog.ifacesRec ·)))=true:=by kernel_rfl
theorem M7:((Rows.fnExactMemSoundRow.mapsOut == Tryz.pinned.checked.prog.mapsAmong Tryz.f3.resultTypes.toList))=true:=by kernel_rfl
theorem LG:((Rows.fnExactMemSoundRow.loops == (Tryz.f3.params.toList++Rows.fnExactMemSoundSpec.plain.varTypes Tryz.pinned.checked.prog).any (Tryz.pinned.checked.prog.loopsFrom ·)))=true:=by kernel_rfl
theorem Ma:((Rows.fnExactMemSoundRow.wideKeys == (Tryz.f3.params.toList++Rows.fnExactMemSoundSpec.plain.varTypes Tryz.pinned.checked.prog++Tryz.f3.resultTypes.toList).any (Tryz.pinned.checked.prog.wideKeysFrom ·)))=true:=by kernel_rfl
theorem M5:(Rows.fnExactMemSoundSpec.vars.all (Tryz.pinned.checked.prog.varReadable ·))=true:=by kernel_rfl
theorem LY:(Tryz.f3.resultTypes.all (fun t=>Tryz.pinned.checked.prog.readableRec t && decide (t < Tryz.pinned.checked.prog.types.size)))=true:=by kernel_rfl
theorem LU:((Rows.fnExactMemSoundRow.ifacesOut == Tryz.f3.resultTypes.toList.any (Tryz.pinned.checked.prog.ifacesRec ·)))=true:=by kernel_rfl
theorem Me:((Rows.fnExactMemSoundRow.loopsOut == Tryz.f3.resultTypes.toList.any (Tryz.pinned.checked.prog.loopsFrom ·)))=true:=by kernel_rfl
theorem LJ:((Rows.fnExactMemSoundRow.plainKeys == Tryz.pinned.checked.prog.plainKeys))=true:=by kernel_rfl
theorem LN:(Rows.fnExactMemSoundRow.shortTexts.isNone)=true:=by kernel_rfl
theorem LW:(Tryz.pinned.checked.prog.stopsHeard)=true:=by kernel_rfl
theorem LP:(Tryz.pinned.checked.prog.mayEnter)=true:=by kernel_rfl
theorem Lx:((Rows.fnExactMemSoundRow.lifted == Tryz.pinned.checked.prog.liftsFinal))=true:=by kernel_rfl
theorem LQ:((Tryz.pinned.checked.prog.make == some Rows.fnExactMemSoundRow.make))=true:=by kernel_rfl
theorem LR:((Rows.fnExactMemSoundRow.kinds == (if Rows.fnExactMemSoundRow.domain.isEmpty then [] else Tryz.f3.params.toList.map fun t=>match Tryz.pinned.checked.prog.underlying t with | some (.int k)=>some k | _=>none)))=true:=by kernel_rfl
theorem Mb:((Rows.fnExactMemSoundRow.pinned == Rows.fnExactMemSoundRow.pinnedBy))=true:=by kernel_rfl
theorem Ly:((Rows.fnExactMemSoundRow.veiled == (Tryz.f3.params.toList++Rows.fnExactMemSoundSpec.plain.varTypes Tryz.pinned.checked.prog++Tryz.f3.resultTypes.toList).any (Tryz.pinned.checked.prog.veiledRec ·)))=true:=by kernel_rfl
theorem M1:(Rows.fnExactMemSoundRow.veiledFits Tryz.pinned.checked.prog Tryz.f3.params.toList (Tryz.f3.params.toList++Rows.fnExactMemSoundSpec.plain.varTypes Tryz.pinned.checked.prog++Tryz.f3.resultTypes.toList))=true:=by kernel_rfl
set_option maxRecDepth 100000 in
theorem J1:joinedFacts Tryz.pinned.checked.prog 3 Tryz.f3 Rows.fnExactMemSoundSpec Rows.fnExactMemSoundRow=true:=by
  unfold joinedFacts
  exact (jz (jz (jz (jz (jz (jz (jz (jz (jz (jz (jz (jz (jz (jz (jz (jz (jz (jz (jz (jz (jz (jz (jz (jz (jz (jz (jz (jz (jz (jz (jz cl0 cl1) cl2) cl3) cl4) cl5) cl6) cl7) cl8) cl9) Mc) LD) LZ) LE) M6) M7) LG) Ma) M5) LY) LU) Me) LJ) LN) LW) LP) Lx) LQ) LR) Mb) Ly) M1)
theorem inst:Tryz.f3.isInstance Tryz.pinned.checked.prog Rows.fnExactMemSoundRow.origin Rows.fnExactMemSoundRow.targs:=of_decide_eq_true (by kernel_rfl)
theorem GR:Tryz.f3.isWrapper Tryz.pinned.checked.prog Rows.fnExactMemSoundRow.wrapper Rows.fnExactMemSoundRow.mainSum:=by unfold Func.isWrapper; first | (rw [if_pos (by decide +kernel)]; kernel_rfl) | (rw [if_neg (by decide +kernel)]; exact ⟨rfl,rfl⟩)
theorem Lz:Rows.fnExactMemSoundRow.holds Tryz.pinned (OpenSpec.ofChange Rows.fnExactMemSoundSpec):=
  OpenClaim.holds_of_wide 3 Tryz.f3 rfl rfl rfl rfl rfl rfl rfl ⟨rfl,rfl,rfl,rfl,rfl⟩ rfl rfl rfl rfl rfl named Tryz.func3 J1 inst GR
    (fun os started H enc _=>lifted os started H enc)

/-- The statement. -/
theorem proved:Rows.FnExactMemSoundSaid:=Lz
#print axioms proved
end Go.Proofs.YtiljnppocjgkkaaGreat.fnExactMemSound
