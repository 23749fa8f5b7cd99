/- The law FnExactDropItem: its arguments as data, and the step to the given row. The walk and the plain law come from the texts that are imported. -/
import Derived.Test.YtkdffjpgnhobhaaGreatRows
import Derived.Test.YtkdffjpgnhobhaaGreatEG
import Derived.Test.YtkdffjpgnhobhaaGreatWExactDropItemWalk
import Derived.Test.YtkdffjpgnhobhaaGreatTExactDropItem
import Derived.OpenShut
import Derived.LaidLaws
import Derived.Handed
import Derived.Lib.LaidTab
import Derived.ShutString
import Derived.ChangeOld
namespace Go.Proofs.YtkdffjpgnhobhaaGreat.fnExactDropItem
open Eng
open Go.ChangeShapes Go.WideShapes Go.ChangeAt Go.RowKit
open Go.ChangeMaps (open_string shut_string)
set_option linter.unusedVariables false
set_option linter.unusedSimpArgs false

theorem Ak:Tryz.prog.underlying 9=some (.string):=by kernel_rfl
theorem tr:Tryz.prog.underlying 3=some (.int .i64):=by kernel_rfl
theorem KQ:gL Tryz.prog 240=some [(0,3,1),(1,3,1),(2,9,1)]:=by kernel_rfl
theorem KP:Sz Tryz.prog 240 3=true:=by kernel_rfl
theorem LE:gL Tryz.prog 242=some [(0,3,1),(1,9,1),(2,240,3)]:=by kernel_rfl
theorem Ml:Sz Tryz.prog 242 5=true:=by kernel_rfl
theorem KI:Sl Tryz.prog 236 242 5=true:=by kernel_rfl
theorem Ny:Tryz.prog.underlying 4=some (.bool):=by kernel_rfl
theorem Kt:gL Tryz.prog 238=some [(0,9,1),(1,236,1),(2,4,1)]:=by kernel_rfl
theorem Kg:Sz Tryz.prog 238 3=true:=by kernel_rfl
theorem N0:Sl Tryz.prog 98 238 3=true:=by kernel_rfl
theorem Km:gL Tryz.prog 244=some [(0,3,1),(1,242,5),(6,242,5)]:=by kernel_rfl
theorem LH:Sz Tryz.prog 244 11=true:=by kernel_rfl
theorem MD:Sl Tryz.prog 99 244 11=true:=by kernel_rfl
theorem Ma:gL Tryz.prog 307=some [(0,9,1),(1,242,5),(6,242,5)]:=by kernel_rfl
theorem Kx:Sz Tryz.prog 307 11=true:=by kernel_rfl
theorem Mk:Sl Tryz.prog 246 307 11=true:=by kernel_rfl
theorem KG:gL Tryz.prog 248=some [(0,3,1),(1,9,1),(2,246,1),(3,3,1),(4,9,1)]:=by kernel_rfl
theorem KY:Sz Tryz.prog 248 5=true:=by kernel_rfl
theorem M6:Sl Tryz.prog 100 248 5=true:=by kernel_rfl
theorem KR:gL Tryz.prog 102=some [(0,9,1),(1,3,1),(2,98,1),(3,99,1),(4,100,1)]:=by kernel_rfl
theorem LD:Sz Tryz.prog 102 5=true:=by kernel_rfl
theorem N6:Sl Tryz.prog 22 102 5=true:=by kernel_rfl
theorem N8:gL Tryz.prog 24=some [(0,9,1),(1,22,1)]:=by kernel_rfl
theorem K0:Sz Tryz.prog 24 2=true:=by kernel_rfl
theorem HJ:Sl Tryz.prog 104 240 3=true:=by kernel_rfl
theorem bg:Sl Tryz.prog 105 3 1=true:=by kernel_rfl
theorem Lv:gL Tryz.prog 107=some [(0,9,1),(1,3,1),(2,104,1),(3,105,1)]:=by kernel_rfl
theorem LV:Sz Tryz.prog 107 4=true:=by kernel_rfl
theorem Ng:Sl Tryz.prog 25 107 4=true:=by kernel_rfl
theorem LJ:gL Tryz.prog 110=some [(0,105,1),(1,105,1)]:=by kernel_rfl
theorem Lw:Sz Tryz.prog 110 2=true:=by kernel_rfl
theorem ME:Sl Tryz.prog 26 110 2=true:=by kernel_rfl
theorem Mv:gL Tryz.prog 28=some [(0,25,1),(1,26,1)]:=by kernel_rfl
theorem JS:Sz Tryz.prog 28 2=true:=by kernel_rfl
theorem M3:gL Tryz.prog 113=some [(0,105,1)]:=by kernel_rfl
theorem KF:Sz Tryz.prog 113 1=true:=by kernel_rfl
theorem MW:Sl Tryz.prog 29 113 1=true:=by kernel_rfl
theorem Lt:gL Tryz.prog 309=some [(0,105,1),(1,105,1)]:=by kernel_rfl
theorem Ko:Sz Tryz.prog 309 2=true:=by kernel_rfl
theorem LN:Sl Tryz.prog 251 309 2=true:=by kernel_rfl
theorem LA:gL Tryz.prog 253=some [(0,251,1)]:=by kernel_rfl
theorem Ka:Sz Tryz.prog 253 1=true:=by kernel_rfl
theorem L6:Sl Tryz.prog 115 253 1=true:=by kernel_rfl
theorem Ly:gL Tryz.prog 117=some [(0,115,1)]:=by kernel_rfl
theorem L3:Sz Tryz.prog 117 1=true:=by kernel_rfl
theorem Na:Sl Tryz.prog 30 117 1=true:=by kernel_rfl
theorem N3:gL Tryz.prog 32=some [(0,29,1),(1,30,1)]:=by kernel_rfl
theorem JZ:Sz Tryz.prog 32 2=true:=by kernel_rfl
theorem Kj:gL Tryz.prog 120=some [(0,9,1),(1,104,1)]:=by kernel_rfl
theorem Mf:Sz Tryz.prog 120 2=true:=by kernel_rfl
theorem M7:gL Tryz.prog 122=some [(0,3,1),(1,120,2)]:=by kernel_rfl
theorem LR:Sz Tryz.prog 122 3=true:=by kernel_rfl
theorem My:Sl Tryz.prog 33 122 3=true:=by kernel_rfl
theorem MQ:gL Tryz.prog 35=some [(0,33,1),(1,3,1)]:=by kernel_rfl
theorem JQ:Sz Tryz.prog 35 2=true:=by kernel_rfl
theorem Gg {w:World}:Rdt Tryz.prog w 240 av wB:=fun H enc sp held n cs x hx=>by
  obtain ⟨ps,n1,hps,hl,hp⟩:=cw (fl:=[(0,3,1),(1,3,1),(2,9,1)]) KQ rfl KP hx
  match ps,hl with
  | [q0,q1,q2],_=>
    obtain ⟨y0,t0⟩:=hp 0 _ _ _ q0 rfl rfl
    obtain ⟨F0,z0,r0,-,w0⟩:=(jv tr) _ _ _ _ _ _ _ t0
    obtain ⟨rfl,rfl⟩:=r0
    obtain ⟨y1,t1⟩:=hp 1 _ _ _ q1 rfl rfl
    obtain ⟨F1,z1,r1,-,w1⟩:=(jv tr) _ _ _ _ _ _ _ t1
    obtain ⟨rfl,rfl⟩:=r1
    obtain ⟨y2,t2⟩:=hp 2 _ _ _ q2 rfl rfl
    obtain ⟨F2,z2,r2,-,w2⟩:=(rI Ak) _ _ _ _ _ _ _ t2
    obtain ⟨rfl,rfl⟩:=r2
    have R:av (Eng.hp w) _ cs (⟨z0,z1,z2⟩:aE):=⟨by rw [hps]; rfl,rfl⟩
    exact ⟨_,_,R,av.knows _ _ _ _ R,⟨w0,w1,w2⟩⟩
theorem zV {w:World}:Rdt Tryz.prog w 242 bO tB:=fun H enc sp held n cs x hx=>by
  obtain ⟨ps,n1,hps,hl,hp⟩:=cw (fl:=[(0,3,1),(1,9,1),(2,240,3)]) LE rfl Ml hx
  match ps,hl with
  | [q0,q1,q2],_=>
    obtain ⟨y0,t0⟩:=hp 0 _ _ _ q0 rfl rfl
    obtain ⟨F0,z0,r0,-,w0⟩:=(jv tr) _ _ _ _ _ _ _ t0
    obtain ⟨rfl,rfl⟩:=r0
    obtain ⟨y1,t1⟩:=hp 1 _ _ _ q1 rfl rfl
    obtain ⟨F1,z1,r1,-,w1⟩:=(rI Ak) _ _ _ _ _ _ _ t1
    obtain ⟨rfl,rfl⟩:=r1
    obtain ⟨y2,t2⟩:=hp 2 _ _ _ q2 rfl rfl
    obtain ⟨F2,z2,r2,-,w2⟩:=Gg _ _ _ _ _ _ _ t2
    obtain ⟨rfl,rfl⟩:=r2
    have R:bO (Eng.hp w) _ cs (⟨z0,z1,z2⟩:aW):=⟨by rw [hps]; rfl,rfl⟩
    exact ⟨_,_,R,bO.knows _ _ _ _ R,⟨w0,w1,w2⟩⟩
theorem KE {w:World}:Rdt Tryz.prog w 238 bR DS:=fun H enc sp held n cs x hx=>by
  obtain ⟨ps,n1,hps,hl,hp⟩:=cw (fl:=[(0,9,1),(1,236,1),(2,4,1)]) Kt rfl Kg hx
  match ps,hl with
  | [q0,q1,q2],_=>
    obtain ⟨y0,t0⟩:=hp 0 _ _ _ q0 rfl rfl
    obtain ⟨F0,z0,r0,-,w0⟩:=(rI Ak) _ _ _ _ _ _ _ t0
    obtain ⟨rfl,rfl⟩:=r0
    obtain ⟨y1,t1⟩:=hp 1 _ _ _ q1 rfl rfl
    obtain ⟨F1,z1,r1,-,w1⟩:=(cQ KI zV rfl) _ _ _ _ _ _ _ t1
    obtain ⟨s1,rfl,r1⟩:=r1
    obtain ⟨y2,t2⟩:=hp 2 _ _ _ q2 rfl rfl
    obtain ⟨F2,z2,r2,-,w2⟩:=(JJ Ny) _ _ _ _ _ _ _ t2
    obtain ⟨rfl,rfl⟩:=r2
    have R:bR (Eng.hp w) _ cs (⟨z0,z1,z2⟩:ax):=⟨s1,F1,by rw [hps]; rfl,rfl,r1⟩
    exact ⟨_,_,R,bR.knows _ _ _ _ R,⟨w0,w1,w2⟩⟩
theorem Kl {w:World}:Rdt Tryz.prog w 244 aZ yb:=fun H enc sp held n cs x hx=>by
  obtain ⟨ps,n1,hps,hl,hp⟩:=cw (fl:=[(0,3,1),(1,242,5),(6,242,5)]) Km rfl LH hx
  match ps,hl with
  | [q0,q1,q2],_=>
    obtain ⟨y0,t0⟩:=hp 0 _ _ _ q0 rfl rfl
    obtain ⟨F0,z0,r0,-,w0⟩:=(jv tr) _ _ _ _ _ _ _ t0
    obtain ⟨rfl,rfl⟩:=r0
    obtain ⟨y1,t1⟩:=hp 1 _ _ _ q1 rfl rfl
    obtain ⟨F1,z1,r1,-,w1⟩:=zV _ _ _ _ _ _ _ t1
    obtain ⟨rfl,rfl⟩:=r1
    obtain ⟨y2,t2⟩:=hp 2 _ _ _ q2 rfl rfl
    obtain ⟨F2,z2,r2,-,w2⟩:=zV _ _ _ _ _ _ _ t2
    obtain ⟨rfl,rfl⟩:=r2
    have R:aZ (Eng.hp w) _ cs (⟨z0,z1,z2⟩:bj):=⟨by rw [hps]; rfl,rfl⟩
    exact ⟨_,_,R,aZ.knows _ _ _ _ R,⟨w0,w1,w2⟩⟩
theorem Mn {w:World}:Rdt Tryz.prog w 307 bq y9:=fun H enc sp held n cs x hx=>by
  obtain ⟨ps,n1,hps,hl,hp⟩:=cw (fl:=[(0,9,1),(1,242,5),(6,242,5)]) Ma rfl Kx hx
  match ps,hl with
  | [q0,q1,q2],_=>
    obtain ⟨y0,t0⟩:=hp 0 _ _ _ q0 rfl rfl
    obtain ⟨F0,z0,r0,-,w0⟩:=(rI Ak) _ _ _ _ _ _ _ t0
    obtain ⟨rfl,rfl⟩:=r0
    obtain ⟨y1,t1⟩:=hp 1 _ _ _ q1 rfl rfl
    obtain ⟨F1,z1,r1,-,w1⟩:=zV _ _ _ _ _ _ _ t1
    obtain ⟨rfl,rfl⟩:=r1
    obtain ⟨y2,t2⟩:=hp 2 _ _ _ q2 rfl rfl
    obtain ⟨F2,z2,r2,-,w2⟩:=zV _ _ _ _ _ _ _ t2
    obtain ⟨rfl,rfl⟩:=r2
    have R:bq (Eng.hp w) _ cs (⟨z0,z1,z2⟩:bh):=⟨by rw [hps]; rfl,rfl⟩
    exact ⟨_,_,R,bq.knows _ _ _ _ R,⟨w0,w1,w2⟩⟩
theorem Lg {w:World}:Rdt Tryz.prog w 248 dZ Eb:=fun H enc sp held n cs x hx=>by
  obtain ⟨ps,n1,hps,hl,hp⟩:=cw (fl:=[(0,3,1),(1,9,1),(2,246,1),(3,3,1),(4,9,1)]) KG rfl KY hx
  match ps,hl with
  | [q0,q1,q2,q3,q4],_=>
    obtain ⟨y0,t0⟩:=hp 0 _ _ _ q0 rfl rfl
    obtain ⟨F0,z0,r0,-,w0⟩:=(jv tr) _ _ _ _ _ _ _ t0
    obtain ⟨rfl,rfl⟩:=r0
    obtain ⟨y1,t1⟩:=hp 1 _ _ _ q1 rfl rfl
    obtain ⟨F1,z1,r1,-,w1⟩:=(rI Ak) _ _ _ _ _ _ _ t1
    obtain ⟨rfl,rfl⟩:=r1
    obtain ⟨y2,t2⟩:=hp 2 _ _ _ q2 rfl rfl
    obtain ⟨F2,z2,r2,-,w2⟩:=(cQ Mk Mn rfl) _ _ _ _ _ _ _ t2
    obtain ⟨s2,rfl,r2⟩:=r2
    obtain ⟨y3,t3⟩:=hp 3 _ _ _ q3 rfl rfl
    obtain ⟨F3,z3,r3,-,w3⟩:=(jv tr) _ _ _ _ _ _ _ t3
    obtain ⟨rfl,rfl⟩:=r3
    obtain ⟨y4,t4⟩:=hp 4 _ _ _ q4 rfl rfl
    obtain ⟨F4,z4,r4,-,w4⟩:=(rI Ak) _ _ _ _ _ _ _ t4
    obtain ⟨rfl,rfl⟩:=r4
    have R:dZ (Eng.hp w) _ cs (⟨z0,z1,z2,z3,z4⟩:bH):=⟨s2,F2,by rw [hps]; rfl,rfl,r2⟩
    exact ⟨_,_,R,dZ.knows _ _ _ _ R,⟨w0,w1,w2,w3,w4⟩⟩
theorem Mh {w:World}:Rdt Tryz.prog w 102 bU ye:=fun H enc sp held n cs x hx=>by
  obtain ⟨ps,n1,hps,hl,hp⟩:=cw (fl:=[(0,9,1),(1,3,1),(2,98,1),(3,99,1),(4,100,1)]) KR rfl LD hx
  match ps,hl with
  | [q0,q1,q2,q3,q4],_=>
    obtain ⟨y0,t0⟩:=hp 0 _ _ _ q0 rfl rfl
    obtain ⟨F0,z0,r0,-,w0⟩:=(rI Ak) _ _ _ _ _ _ _ t0
    obtain ⟨rfl,rfl⟩:=r0
    obtain ⟨y1,t1⟩:=hp 1 _ _ _ q1 rfl rfl
    obtain ⟨F1,z1,r1,-,w1⟩:=(jv tr) _ _ _ _ _ _ _ t1
    obtain ⟨rfl,rfl⟩:=r1
    obtain ⟨y2,t2⟩:=hp 2 _ _ _ q2 rfl rfl
    obtain ⟨F2,z2,r2,-,w2⟩:=(cQ N0 KE rfl) _ _ _ _ _ _ _ t2
    obtain ⟨s2,rfl,r2⟩:=r2
    obtain ⟨y3,t3⟩:=hp 3 _ _ _ q3 rfl rfl
    obtain ⟨F3,z3,r3,-,w3⟩:=(cQ MD Kl rfl) _ _ _ _ _ _ _ t3
    obtain ⟨s3,rfl,r3⟩:=r3
    obtain ⟨y4,t4⟩:=hp 4 _ _ _ q4 rfl rfl
    obtain ⟨F4,z4,r4,-,w4⟩:=(cQ M6 Lg rfl) _ _ _ _ _ _ _ t4
    obtain ⟨s4,rfl,r4⟩:=r4
    have R:bU (Eng.hp w) _ cs (⟨z0,z1,z2,z3,z4⟩:af):=⟨s2,F2,s3,F3,s4,F4,by rw [hps]; rfl,rfl,r2,r3,r4⟩
    exact ⟨_,_,R,bU.knows _ _ _ _ R,⟨w0,w1,w2,w3,w4⟩⟩
theorem MR {w:World}:Rdt Tryz.prog w 24 tf DH:=fun H enc sp held n cs x hx=>by
  obtain ⟨ps,n1,hps,hl,hp⟩:=cw (fl:=[(0,9,1),(1,22,1)]) N8 rfl K0 hx
  match ps,hl with
  | [q0,q1],_=>
    obtain ⟨y0,t0⟩:=hp 0 _ _ _ q0 rfl rfl
    obtain ⟨F0,z0,r0,-,w0⟩:=(rI Ak) _ _ _ _ _ _ _ t0
    obtain ⟨rfl,rfl⟩:=r0
    obtain ⟨y1,t1⟩:=hp 1 _ _ _ q1 rfl rfl
    obtain ⟨F1,z1,r1,-,w1⟩:=(cQ N6 Mh rfl) _ _ _ _ _ _ _ t1
    obtain ⟨s1,rfl,r1⟩:=r1
    have R:tf (Eng.hp w) _ cs (⟨z0,z1⟩:bl):=⟨s1,F1,by rw [hps]; rfl,rfl,r1⟩
    exact ⟨_,_,R,tf.knows _ _ _ _ R,⟨w0,w1⟩⟩
theorem Mi {w:World}:Rdt Tryz.prog w 107 be vT:=fun H enc sp held n cs x hx=>by
  obtain ⟨ps,n1,hps,hl,hp⟩:=cw (fl:=[(0,9,1),(1,3,1),(2,104,1),(3,105,1)]) Lv rfl LV hx
  match ps,hl with
  | [q0,q1,q2,q3],_=>
    obtain ⟨y0,t0⟩:=hp 0 _ _ _ q0 rfl rfl
    obtain ⟨F0,z0,r0,-,w0⟩:=(rI Ak) _ _ _ _ _ _ _ t0
    obtain ⟨rfl,rfl⟩:=r0
    obtain ⟨y1,t1⟩:=hp 1 _ _ _ q1 rfl rfl
    obtain ⟨F1,z1,r1,-,w1⟩:=(jv tr) _ _ _ _ _ _ _ t1
    obtain ⟨rfl,rfl⟩:=r1
    obtain ⟨y2,t2⟩:=hp 2 _ _ _ q2 rfl rfl
    obtain ⟨F2,z2,r2,-,w2⟩:=(cQ HJ Gg rfl) _ _ _ _ _ _ _ t2
    obtain ⟨s2,rfl,r2⟩:=r2
    obtain ⟨y3,t3⟩:=hp 3 _ _ _ q3 rfl rfl
    obtain ⟨F3,z3,r3,-,w3⟩:=(cQ bg (jv tr) rfl) _ _ _ _ _ _ _ t3
    obtain ⟨s3,rfl,r3⟩:=r3
    have R:be (Eng.hp w) _ cs (⟨z0,z1,z2,z3⟩:a8):=⟨s2,F2,s3,F3,by rw [hps]; rfl,rfl,r2,r3⟩
    exact ⟨_,_,R,be.knows _ _ _ _ R,⟨w0,w1,w2,w3⟩⟩
theorem Lk {w:World}:Rdt Tryz.prog w 110 bv vj:=fun H enc sp held n cs x hx=>by
  obtain ⟨ps,n1,hps,hl,hp⟩:=cw (fl:=[(0,105,1),(1,105,1)]) LJ rfl Lw hx
  match ps,hl with
  | [q0,q1],_=>
    obtain ⟨y0,t0⟩:=hp 0 _ _ _ q0 rfl rfl
    obtain ⟨F0,z0,r0,-,w0⟩:=(cQ bg (jv tr) rfl) _ _ _ _ _ _ _ t0
    obtain ⟨s0,rfl,r0⟩:=r0
    obtain ⟨y1,t1⟩:=hp 1 _ _ _ q1 rfl rfl
    obtain ⟨F1,z1,r1,-,w1⟩:=(cQ bg (jv tr) rfl) _ _ _ _ _ _ _ t1
    obtain ⟨s1,rfl,r1⟩:=r1
    have R:bv (Eng.hp w) _ cs (⟨z0,z1⟩:ac):=⟨s0,F0,s1,F1,by rw [hps]; rfl,rfl,r0,r1⟩
    exact ⟨_,_,R,bv.knows _ _ _ _ R,⟨w0,w1⟩⟩
theorem MJ {w:World}:Rdt Tryz.prog w 28 tg Dr:=fun H enc sp held n cs x hx=>by
  obtain ⟨ps,n1,hps,hl,hp⟩:=cw (fl:=[(0,25,1),(1,26,1)]) Mv rfl JS hx
  match ps,hl with
  | [q0,q1],_=>
    obtain ⟨y0,t0⟩:=hp 0 _ _ _ q0 rfl rfl
    obtain ⟨F0,z0,r0,-,w0⟩:=(cQ Ng Mi rfl) _ _ _ _ _ _ _ t0
    obtain ⟨s0,rfl,r0⟩:=r0
    obtain ⟨y1,t1⟩:=hp 1 _ _ _ q1 rfl rfl
    obtain ⟨F1,z1,r1,-,w1⟩:=(cQ ME Lk rfl) _ _ _ _ _ _ _ t1
    obtain ⟨s1,rfl,r1⟩:=r1
    have R:tg (Eng.hp w) _ cs (⟨z0,z1⟩:bd):=⟨s0,F0,s1,F1,by rw [hps]; rfl,rfl,r0,r1⟩
    exact ⟨_,_,R,tg.knows _ _ _ _ R,⟨w0,w1⟩⟩
theorem LP {w:World}:Rdt Tryz.prog w 113 dP DL:=fun H enc sp held n cs x hx=>by
  obtain ⟨ps,n1,hps,hl,hp⟩:=cw (fl:=[(0,105,1)]) M3 rfl KF hx
  match ps,hl with
  | [q0],_=>
    obtain ⟨y0,t0⟩:=hp 0 _ _ _ q0 rfl rfl
    obtain ⟨F0,z0,r0,-,w0⟩:=(cQ bg (jv tr) rfl) _ _ _ _ _ _ _ t0
    obtain ⟨s0,rfl,r0⟩:=r0
    have R:dP (Eng.hp w) _ cs (⟨z0⟩:aP):=⟨s0,F0,by rw [hps]; rfl,rfl,r0⟩
    exact ⟨_,_,R,dP.knows _ _ _ _ R,w0⟩
theorem LX {w:World}:Rdt Tryz.prog w 309 ic wN:=fun H enc sp held n cs x hx=>by
  obtain ⟨ps,n1,hps,hl,hp⟩:=cw (fl:=[(0,105,1),(1,105,1)]) Lt rfl Ko hx
  match ps,hl with
  | [q0,q1],_=>
    obtain ⟨y0,t0⟩:=hp 0 _ _ _ q0 rfl rfl
    obtain ⟨F0,z0,r0,-,w0⟩:=(cQ bg (jv tr) rfl) _ _ _ _ _ _ _ t0
    obtain ⟨s0,rfl,r0⟩:=r0
    obtain ⟨y1,t1⟩:=hp 1 _ _ _ q1 rfl rfl
    obtain ⟨F1,z1,r1,-,w1⟩:=(cQ bg (jv tr) rfl) _ _ _ _ _ _ _ t1
    obtain ⟨s1,rfl,r1⟩:=r1
    have R:ic (Eng.hp w) _ cs (⟨z0,z1⟩:ak):=⟨s0,F0,s1,F1,by rw [hps]; rfl,rfl,r0,r1⟩
    exact ⟨_,_,R,ic.knows _ _ _ _ R,⟨w0,w1⟩⟩
theorem KZ {w:World}:Rdt Tryz.prog w 253 dI sF:=fun H enc sp held n cs x hx=>by
  obtain ⟨ps,n1,hps,hl,hp⟩:=cw (fl:=[(0,251,1)]) LA rfl Ka hx
  match ps,hl with
  | [q0],_=>
    obtain ⟨y0,t0⟩:=hp 0 _ _ _ q0 rfl rfl
    obtain ⟨F0,z0,r0,-,w0⟩:=(cQ LN LX rfl) _ _ _ _ _ _ _ t0
    obtain ⟨s0,rfl,r0⟩:=r0
    have R:dI (Eng.hp w) _ cs (⟨z0⟩:ae):=⟨s0,F0,by rw [hps]; rfl,rfl,r0⟩
    exact ⟨_,_,R,dI.knows _ _ _ _ R,w0⟩
theorem L9 {w:World}:Rdt Tryz.prog w 117 fx zd:=fun H enc sp held n cs x hx=>by
  obtain ⟨ps,n1,hps,hl,hp⟩:=cw (fl:=[(0,115,1)]) Ly rfl L3 hx
  match ps,hl with
  | [q0],_=>
    obtain ⟨y0,t0⟩:=hp 0 _ _ _ q0 rfl rfl
    obtain ⟨F0,z0,r0,-,w0⟩:=(cQ L6 KZ rfl) _ _ _ _ _ _ _ t0
    obtain ⟨s0,rfl,r0⟩:=r0
    have R:fx (Eng.hp w) _ cs (⟨z0⟩:aC):=⟨s0,F0,by rw [hps]; rfl,rfl,r0⟩
    exact ⟨_,_,R,fx.knows _ _ _ _ R,w0⟩
theorem Nm {w:World}:Rdt Tryz.prog w 32 td wF:=fun H enc sp held n cs x hx=>by
  obtain ⟨ps,n1,hps,hl,hp⟩:=cw (fl:=[(0,29,1),(1,30,1)]) N3 rfl JZ hx
  match ps,hl with
  | [q0,q1],_=>
    obtain ⟨y0,t0⟩:=hp 0 _ _ _ q0 rfl rfl
    obtain ⟨F0,z0,r0,-,w0⟩:=(cQ MW LP rfl) _ _ _ _ _ _ _ t0
    obtain ⟨s0,rfl,r0⟩:=r0
    obtain ⟨y1,t1⟩:=hp 1 _ _ _ q1 rfl rfl
    obtain ⟨F1,z1,r1,-,w1⟩:=(cQ Na L9 rfl) _ _ _ _ _ _ _ t1
    obtain ⟨s1,rfl,r1⟩:=r1
    have R:td (Eng.hp w) _ cs (⟨z0,z1⟩:aG):=⟨s0,F0,s1,F1,by rw [hps]; rfl,rfl,r0,r1⟩
    exact ⟨_,_,R,td.knows _ _ _ _ R,⟨w0,w1⟩⟩
theorem Kd {w:World}:Rdt Tryz.prog w 120 oG CZ:=fun H enc sp held n cs x hx=>by
  obtain ⟨ps,n1,hps,hl,hp⟩:=cw (fl:=[(0,9,1),(1,104,1)]) Kj rfl Mf hx
  match ps,hl with
  | [q0,q1],_=>
    obtain ⟨y0,t0⟩:=hp 0 _ _ _ q0 rfl rfl
    obtain ⟨F0,z0,r0,-,w0⟩:=(rI Ak) _ _ _ _ _ _ _ t0
    obtain ⟨rfl,rfl⟩:=r0
    obtain ⟨y1,t1⟩:=hp 1 _ _ _ q1 rfl rfl
    obtain ⟨F1,z1,r1,-,w1⟩:=(cQ HJ Gg rfl) _ _ _ _ _ _ _ t1
    obtain ⟨s1,rfl,r1⟩:=r1
    have R:oG (Eng.hp w) _ cs (⟨z0,z1⟩:aA):=⟨s1,F1,by rw [hps]; rfl,rfl,r1⟩
    exact ⟨_,_,R,oG.knows _ _ _ _ R,⟨w0,w1⟩⟩
theorem M8 {w:World}:Rdt Tryz.prog w 122 bN ya:=fun H enc sp held n cs x hx=>by
  obtain ⟨ps,n1,hps,hl,hp⟩:=cw (fl:=[(0,3,1),(1,120,2)]) M7 rfl LR hx
  match ps,hl with
  | [q0,q1],_=>
    obtain ⟨y0,t0⟩:=hp 0 _ _ _ q0 rfl rfl
    obtain ⟨F0,z0,r0,-,w0⟩:=(jv tr) _ _ _ _ _ _ _ t0
    obtain ⟨rfl,rfl⟩:=r0
    obtain ⟨y1,t1⟩:=hp 1 _ _ _ q1 rfl rfl
    obtain ⟨F1,z1,r1,-,w1⟩:=Kd _ _ _ _ _ _ _ t1
    obtain ⟨s1_0,G1_0,rfl,rfl,h1_0⟩:=r1
    have R:bN (Eng.hp w) _ cs (⟨z0,z1⟩:aY):=⟨s1_0,F1,by rw [hps]; rfl,rfl,h1_0⟩
    exact ⟨_,_,R,bN.knows _ _ _ _ R,⟨w0,w1⟩⟩
theorem Nf {w:World}:Rdt Tryz.prog w 35 kK vM:=fun H enc sp held n cs x hx=>by
  obtain ⟨ps,n1,hps,hl,hp⟩:=cw (fl:=[(0,33,1),(1,3,1)]) MQ rfl JQ hx
  match ps,hl with
  | [q0,q1],_=>
    obtain ⟨y0,t0⟩:=hp 0 _ _ _ q0 rfl rfl
    obtain ⟨F0,z0,r0,-,w0⟩:=(cQ My M8 rfl) _ _ _ _ _ _ _ t0
    obtain ⟨s0,rfl,r0⟩:=r0
    obtain ⟨y1,t1⟩:=hp 1 _ _ _ q1 rfl rfl
    obtain ⟨F1,z1,r1,-,w1⟩:=(jv tr) _ _ _ _ _ _ _ t1
    obtain ⟨rfl,rfl⟩:=r1
    have R:kK (Eng.hp w) _ cs (⟨z0,z1⟩:ah):=⟨s0,F0,by rw [hps]; rfl,rfl,r0⟩
    exact ⟨_,_,R,kK.knows _ _ _ _ R,⟨w0,w1⟩⟩
theorem own:ownKnob Tryz.prog.godebug=none:=by kernel_rfl
theorem vR:laidOutB Tryz.prog=true:=by kernel_rfl
set_option maxRecDepth 100000 in
theorem lifted (os:Os) (started:os.Started) (H:Type) (enc:TypeId × Value→H) :
    ReturnsInHanded {} Tryz.checked os 3 .any (Rows.fnExactDropItemSpec.pre6 enc Tryz.prog Tryz.f3 Rows.fnExactDropItemRow.domain false) (Rows.fnExactDropItemSpec.post enc Tryz.prog Tryz.f3 false true false false):=by
  refine returnsInHanded_of_change (C:=Tryz.checked) own started (by kernel_rfl) Tryz.func3
    (ChangeSpec.witness6 (enc:=enc) (C:=Tryz.checked) false ⟨#[],#[.agg #[.string ⟨#[]⟩,.slice none 0 0],.agg #[.slice none 0 0,.slice none 0 0],.agg #[.slice none 0 0,.slice none 0 0],.agg #[.slice none 0 0,.int .i64 0],.int .i64 0],[]⟩ 8 (by kernel_rfl) (by kernel_rfl) (by kernel_rfl) (by kernel_rfl)) ?_
  intro W base args ds gs before hval0 hW hcnd _
  have hval:∀ (j:Nat) t v,Tryz.f3.params[j]?=some t→args[j]?=some v→Value.okWide Tryz.prog W .any base t v:=hval0
  have hW':=hW
  obtain ⟨p,q,hA0,hV,rfl,hfz,hnd⟩:=hW
  have hA:DataW.TrodAll enc Tryz.prog W 0 (fun _=>true) true Tryz.f3.params.toList args.toList ds p:=hA0
  rw [Tryz.params3] at hA hval
  obtain ⟨v0,vs0,d0,ds0,p0,q0,hargs,rfl,rfl,h0,r0⟩:=trodAll_cons hA
  obtain ⟨v1,vs1,d1,ds1,p1,q1,rfl,rfl,rfl,h1,r1⟩:=trodAll_cons r0
  obtain ⟨v2,vs2,d2,ds2,p2,q2,rfl,rfl,rfl,h2,r2⟩:=trodAll_cons r1
  obtain ⟨v3,vs3,d3,ds3,p3,q3,rfl,rfl,rfl,h3,r3⟩:=trodAll_cons r2
  obtain ⟨v4,vs4,d4,ds4,p4,q4,rfl,rfl,rfl,h4,r4⟩:=trodAll_cons r3
  obtain ⟨rfl,rfl,rfl⟩:=trodAll_nil r4
  obtain rfl:args = #[v0,v1,v2,v3,v4]:=by cases args; simp_all
  obtain ⟨rfl,rfl⟩:=trodVars_none hV
  have k0:=h0
  have lt0:∀ x∈p0,x.block < W.heap.size:=by obtain ⟨m,hm⟩:=k0; exact DataW.trod_lt m _ _ _ hm
  have k1:=h1
  have lt1:∀ x∈p1,x.block < W.heap.size:=by obtain ⟨m,hm⟩:=k1; exact DataW.trod_lt m _ _ _ hm
  have k2:=h2
  have lt2:∀ x∈p2,x.block < W.heap.size:=by obtain ⟨m,hm⟩:=k2; exact DataW.trod_lt m _ _ _ hm
  have k3:=h3
  have lt3:∀ x∈p3,x.block < W.heap.size:=by obtain ⟨m,hm⟩:=k3; exact DataW.trod_lt m _ _ _ hm
  have k4:=h4
  have lt4:∀ x∈p4,x.block < W.heap.size:=by obtain ⟨m,hm⟩:=k4; exact DataW.trod_lt m _ _ _ hm
  obtain ⟨m0,hm0⟩:=h0
  obtain ⟨G0,x0,e0,-,w0⟩:=MR _ _ _ _ _ _ _ hm0
  obtain ⟨cs0,rfl⟩:=CJ (hval 0 24 v0 rfl rfl) K0 (by kernel_rfl)
  obtain ⟨s0_0,F0_0,hc0,-,q0_0⟩:=e0
  obtain rfl:=uc hc0
  obtain ⟨m1,hm1⟩:=h1
  obtain ⟨G1,x1,e1,-,w1⟩:=MJ _ _ _ _ _ _ _ hm1
  obtain ⟨cs1,rfl⟩:=CJ (hval 1 28 v1 rfl rfl) JS (by kernel_rfl)
  obtain ⟨s1_0,F1_0,s1_1,F1_1,hc1,-,q1_0,q1_1⟩:=e1
  obtain rfl:=uc hc1
  obtain ⟨m2,hm2⟩:=h2
  obtain ⟨G2,x2,e2,-,w2⟩:=Nm _ _ _ _ _ _ _ hm2
  obtain ⟨cs2,rfl⟩:=CJ (hval 2 32 v2 rfl rfl) JZ (by kernel_rfl)
  obtain ⟨s2_0,F2_0,s2_1,F2_1,hc2,-,q2_0,q2_1⟩:=e2
  obtain rfl:=uc hc2
  obtain ⟨m3,hm3⟩:=h3
  obtain ⟨G3,x3,e3,-,w3⟩:=Nf _ _ _ _ _ _ _ hm3
  obtain ⟨cs3,rfl⟩:=CJ (hval 3 35 v3 rfl rfl) JQ (by kernel_rfl)
  obtain ⟨s3_0,F3_0,hc3,-,q3_0⟩:=e3
  obtain rfl:=uc hc3
  obtain ⟨m4,hm4⟩:=h4
  obtain ⟨G4,x4,e4,-,w4⟩:=(jv tr) _ _ _ _ _ _ _ hm4
  obtain ⟨hc4,-⟩:=e4
  obtain rfl:=Kq (hval 4 3 v4 rfl rfl) tr hc4
  clear hA0 hval0
  refine (sY 1099511627776 (ba (MK W)) x0 x1 x2 x3 x4 q0_0 q1_0 q1_1 q2_0 q2_1 q3_0 (law w0 w1 w2 w3 w4)).mono fun e W1 ⟨he,bel⟩=>?_
  subst he
  replace bel:=bel.toBelow
  exact ⟨_,rfl,_,_,_,[],_,[],hW',trodAll_mk1 (shut_bool (by kernel_rfl:Tryz.prog.underlying 4=some .bool) _),(trodAll_cons_mk (Below.trod vR (by kernel_rfl) (of_decide_eq_true (by kernel_rfl)) k0 bel lt0) (trodAll_cons_mk (Below.trod vR (by kernel_rfl) (of_decide_eq_true (by kernel_rfl)) k1 bel lt1) (trodAll_cons_mk (Below.trod vR (by kernel_rfl) (of_decide_eq_true (by kernel_rfl)) k2 bel lt2) (trodAll_cons_mk (Below.trod vR (by kernel_rfl) (of_decide_eq_true (by kernel_rfl)) k3 bel lt3) (trodAll_cons_mk (Below.trod vR (by kernel_rfl) (of_decide_eq_true (by kernel_rfl)) k4 bel lt4) trodAll_mk0))))),rfl,bel.frame _,fun h=>by cases h⟩

theorem named:Tryz.pinned.checked.prog.funcNamed Rows.fnExactDropItemRow.func=some 3:=by kernel_rfl
theorem kU {a b:Bool} (ha:a=true) (hb:b=true):(a && b)=true:=by rw [ha,hb]; rfl
theorem cl0:(Rows.fnExactDropItemRow.wf (OpenSpec.ofChange Rows.fnExactDropItemSpec))=true:=by kernel_rfl
theorem cl1:(laidOutB Tryz.pinned.checked.prog)=true:=by kernel_rfl
theorem cl2:(mapsRowed Tryz.pinned.checked.prog)=true:=by kernel_rfl
theorem cl3:(Tryz.f3.params.all (Tryz.pinned.checked.prog.readableRec ·))=true:=by kernel_rfl
theorem cl4:(namedTie Tryz.pinned.checked.prog Rows.fnExactDropItemRow.named Rows.fnExactDropItemSpec.vars)=true:=by kernel_rfl
theorem cl5:((Rows.fnExactDropItemRow.stops == []))=true:=by kernel_rfl
theorem cl6:((Tryz.pinned.checked.prog.stops == []))=true:=by kernel_rfl
theorem cl7:((Rows.fnExactDropItemRow.knobs == []))=true:=by kernel_rfl
theorem cl8:((Tryz.pinned.checked.prog.stopKnobs == []))=true:=by kernel_rfl
theorem cl9:((Rows.fnExactDropItemRow.inPlace == Tryz.pinned.checked.prog.inPlace 3))=true:=by kernel_rfl
theorem NA:((Rows.fnExactDropItemRow.unfollowed == Tryz.pinned.checked.prog.unfollowed 3))=true:=by kernel_rfl
theorem NW:((Rows.fnExactDropItemRow.recurses == Tryz.pinned.checked.prog.recurses 3))=true:=by kernel_rfl
theorem NT:((Rows.fnExactDropItemRow.named == Tryz.pinned.checked.prog.varsNamed 3))=true:=by kernel_rfl
theorem Nr:((Rows.fnExactDropItemRow.maps == (Tryz.f3.params.toList++Rows.fnExactDropItemSpec.plain.varTypes Tryz.pinned.checked.prog).any (Tryz.pinned.checked.prog.mapsRec ·)))=true:=by kernel_rfl
theorem NP:((Rows.fnExactDropItemRow.ifaces == (Tryz.f3.params.toList++Rows.fnExactDropItemSpec.plain.varTypes Tryz.pinned.checked.prog).any (Tryz.pinned.checked.prog.ifacesRec ·)))=true:=by kernel_rfl
theorem Nw:((Rows.fnExactDropItemRow.mapsOut == Tryz.pinned.checked.prog.mapsAmong Tryz.f3.resultTypes.toList))=true:=by kernel_rfl
theorem NO:((Rows.fnExactDropItemRow.loops == (Tryz.f3.params.toList++Rows.fnExactDropItemSpec.plain.varTypes Tryz.pinned.checked.prog).any (Tryz.pinned.checked.prog.loopsFrom ·)))=true:=by kernel_rfl
theorem Nv:((Rows.fnExactDropItemRow.wideKeys == (Tryz.f3.params.toList++Rows.fnExactDropItemSpec.plain.varTypes Tryz.pinned.checked.prog++Tryz.f3.resultTypes.toList).any (Tryz.pinned.checked.prog.wideKeysFrom ·)))=true:=by kernel_rfl
theorem NM:(Rows.fnExactDropItemSpec.vars.all (Tryz.pinned.checked.prog.varReadable ·))=true:=by kernel_rfl
theorem NN:(Tryz.f3.resultTypes.all (fun t=>Tryz.pinned.checked.prog.readableRec t && decide (t < Tryz.pinned.checked.prog.types.size)))=true:=by kernel_rfl
theorem NF:((Rows.fnExactDropItemRow.ifacesOut == Tryz.f3.resultTypes.toList.any (Tryz.pinned.checked.prog.ifacesRec ·)))=true:=by kernel_rfl
theorem NV:((Rows.fnExactDropItemRow.loopsOut == Tryz.f3.resultTypes.toList.any (Tryz.pinned.checked.prog.loopsFrom ·)))=true:=by kernel_rfl
theorem NB:((Rows.fnExactDropItemRow.plainKeys == Tryz.pinned.checked.prog.plainKeys))=true:=by kernel_rfl
theorem NZ:(Rows.fnExactDropItemRow.shortTexts.isNone)=true:=by kernel_rfl
theorem NL:(Tryz.pinned.checked.prog.stopsHeard)=true:=by kernel_rfl
theorem Nu:(Tryz.pinned.checked.prog.mayEnter)=true:=by kernel_rfl
theorem NI:((Rows.fnExactDropItemRow.lifted == Tryz.pinned.checked.prog.liftsFinal))=true:=by kernel_rfl
theorem NU:((Tryz.pinned.checked.prog.make == some Rows.fnExactDropItemRow.make))=true:=by kernel_rfl
theorem Nt:((Rows.fnExactDropItemRow.kinds == (if Rows.fnExactDropItemRow.domain.isEmpty then [] else Tryz.f3.params.toList.map fun t=>match Tryz.pinned.checked.prog.underlying t with | some (.int k)=>some k | _=>none)))=true:=by kernel_rfl
theorem NR:((Rows.fnExactDropItemRow.pinned == Rows.fnExactDropItemRow.pinnedBy))=true:=by kernel_rfl
theorem O0:((Rows.fnExactDropItemRow.veiled == (Tryz.f3.params.toList++Rows.fnExactDropItemSpec.plain.varTypes Tryz.pinned.checked.prog++Tryz.f3.resultTypes.toList).any (Tryz.pinned.checked.prog.veiledRec ·)))=true:=by kernel_rfl
theorem NX:(Rows.fnExactDropItemRow.veiledFits Tryz.pinned.checked.prog Tryz.f3.params.toList (Tryz.f3.params.toList++Rows.fnExactDropItemSpec.plain.varTypes Tryz.pinned.checked.prog++Tryz.f3.resultTypes.toList))=true:=by kernel_rfl
set_option maxRecDepth 100000 in
theorem LQ:joinedFacts Tryz.pinned.checked.prog 3 Tryz.f3 Rows.fnExactDropItemSpec Rows.fnExactDropItemRow=true:=by
  unfold joinedFacts
  exact (kU (kU (kU (kU (kU (kU (kU (kU (kU (kU (kU (kU (kU (kU (kU (kU (kU (kU (kU (kU (kU (kU (kU (kU (kU (kU (kU (kU (kU (kU (kU cl0 cl1) cl2) cl3) cl4) cl5) cl6) cl7) cl8) cl9) NA) NW) NT) Nr) NP) Nw) NO) Nv) NM) NN) NF) NV) NB) NZ) NL) Nu) NI) NU) Nt) NR) O0) NX)
theorem inst:Tryz.f3.isInstance Tryz.pinned.checked.prog Rows.fnExactDropItemRow.origin Rows.fnExactDropItemRow.targs:=of_decide_eq_true (by kernel_rfl)
theorem Jj:Tryz.f3.isWrapper Tryz.pinned.checked.prog Rows.fnExactDropItemRow.wrapper Rows.fnExactDropItemRow.mainSum:=by unfold Func.isWrapper; first | (rw [if_pos (by decide +kernel)]; kernel_rfl) | (rw [if_neg (by decide +kernel)]; exact ⟨rfl,rfl⟩)
theorem NJ:Rows.fnExactDropItemRow.holds Tryz.pinned (OpenSpec.ofChange Rows.fnExactDropItemSpec):=
  OpenClaim.holds_of_wide 3 Tryz.f3 rfl rfl rfl rfl rfl rfl rfl ⟨rfl,rfl,rfl,rfl,rfl⟩ rfl rfl rfl rfl rfl named Tryz.func3 LQ inst Jj
    (fun os started H enc _=>lifted os started H enc)

/-- The statement. -/
theorem proved:Rows.FnExactDropItemSaid:=NJ
#print axioms proved
end Go.Proofs.YtkdffjpgnhobhaaGreat.fnExactDropItem
