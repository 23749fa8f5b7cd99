/- The law FnExactAddItem: its arguments as data, and the step to the given row. The walk and the plain law come from the texts that are imported. -/
import Derived.Test.YtnnkgijdbebnaaaGreatRows
import Derived.Test.YtnnkgijdbebnaaaGreatEG
import Derived.Test.YtnnkgijdbebnaaaGreatWExactAddItemWalk
import Derived.Test.YtnnkgijdbebnaaaGreatTExactAddItemb
import Derived.OpenShut
import Derived.LaidLaws
import Derived.Handed
import Derived.Lib.LaidTab
import Derived.ShutString
import Derived.ChangeOld
namespace Go.Proofs.YtnnkgijdbebnaaaGreat.fnExactAddItem
open Eng
open Go.ChangeShapes Go.WideShapes Go.ChangeAt Go.RowKit
open Go.ChangeMaps (open_string shut_string)
set_option linter.unusedVariables false
set_option linter.unusedSimpArgs false

theorem C9:Tryz.prog.underlying 9=some (.string):=by kernel_rfl
theorem uk:Tryz.prog.underlying 3=some (.int .i64):=by kernel_rfl
theorem Mb:hJ Tryz.prog 237=some [(0,3,1),(1,3,1),(2,9,1)]:=by kernel_rfl
theorem Lp:Sz Tryz.prog 237 3=true:=by kernel_rfl
theorem Lk:hJ Tryz.prog 239=some [(0,3,1),(1,9,1),(2,237,3)]:=by kernel_rfl
theorem Ln:Sz Tryz.prog 239 5=true:=by kernel_rfl
theorem Lq:Sl Tryz.prog 233 239 5=true:=by kernel_rfl
theorem P8:Tryz.prog.underlying 4=some (.bool):=by kernel_rfl
theorem MC:hJ Tryz.prog 235=some [(0,9,1),(1,233,1),(2,4,1)]:=by kernel_rfl
theorem M2:Sz Tryz.prog 235 3=true:=by kernel_rfl
theorem NX:Sl Tryz.prog 98 235 3=true:=by kernel_rfl
theorem LW:hJ Tryz.prog 241=some [(0,3,1),(1,239,5),(6,239,5)]:=by kernel_rfl
theorem MT:Sz Tryz.prog 241 11=true:=by kernel_rfl
theorem O5:Sl Tryz.prog 99 241 11=true:=by kernel_rfl
theorem MN:hJ Tryz.prog 307=some [(0,9,1),(1,239,5),(6,239,5)]:=by kernel_rfl
theorem Mc:Sz Tryz.prog 307 11=true:=by kernel_rfl
theorem M6:Sl Tryz.prog 243 307 11=true:=by kernel_rfl
theorem ME:hJ Tryz.prog 245=some [(0,3,1),(1,9,1),(2,243,1),(3,3,1),(4,9,1)]:=by kernel_rfl
theorem Mz:Sz Tryz.prog 245 5=true:=by kernel_rfl
theorem Np:Sl Tryz.prog 100 245 5=true:=by kernel_rfl
theorem MQ:hJ Tryz.prog 102=some [(0,9,1),(1,3,1),(2,98,1),(3,99,1),(4,100,1)]:=by kernel_rfl
theorem N2:Sz Tryz.prog 102 5=true:=by kernel_rfl
theorem Ot:Sl Tryz.prog 22 102 5=true:=by kernel_rfl
theorem Ob:hJ Tryz.prog 24=some [(0,9,1),(1,22,1)]:=by kernel_rfl
theorem Lh:Sz Tryz.prog 24 2=true:=by kernel_rfl
theorem Jl:Sl Tryz.prog 104 237 3=true:=by kernel_rfl
theorem aR:Sl Tryz.prog 105 3 1=true:=by kernel_rfl
theorem LT:hJ Tryz.prog 107=some [(0,9,1),(1,3,1),(2,104,1),(3,105,1)]:=by kernel_rfl
theorem LQ:Sz Tryz.prog 107 4=true:=by kernel_rfl
theorem NL:Sl Tryz.prog 25 107 4=true:=by kernel_rfl
theorem LR:hJ Tryz.prog 110=some [(0,105,1),(1,105,1)]:=by kernel_rfl
theorem MO:Sz Tryz.prog 110 2=true:=by kernel_rfl
theorem NB:Sl Tryz.prog 26 110 2=true:=by kernel_rfl
theorem Oe:hJ Tryz.prog 28=some [(0,25,1),(1,26,1)]:=by kernel_rfl
theorem L9:Sz Tryz.prog 28 2=true:=by kernel_rfl
theorem Nd:hJ Tryz.prog 113=some [(0,105,1)]:=by kernel_rfl
theorem MH:Sz Tryz.prog 113 1=true:=by kernel_rfl
theorem O8:Sl Tryz.prog 29 113 1=true:=by kernel_rfl
theorem N0:hJ Tryz.prog 309=some [(0,105,1),(1,105,1)]:=by kernel_rfl
theorem LB:Sz Tryz.prog 309 2=true:=by kernel_rfl
theorem N6:Sl Tryz.prog 248 309 2=true:=by kernel_rfl
theorem LD:hJ Tryz.prog 250=some [(0,248,1)]:=by kernel_rfl
theorem Mw:Sz Tryz.prog 250 1=true:=by kernel_rfl
theorem Mf:Sl Tryz.prog 115 250 1=true:=by kernel_rfl
theorem Ma:hJ Tryz.prog 117=some [(0,115,1)]:=by kernel_rfl
theorem LI:Sz Tryz.prog 117 1=true:=by kernel_rfl
theorem ND:Sl Tryz.prog 30 117 1=true:=by kernel_rfl
theorem Oh:hJ Tryz.prog 32=some [(0,29,1),(1,30,1)]:=by kernel_rfl
theorem L6:Sz Tryz.prog 32 2=true:=by kernel_rfl
theorem Mu:hJ Tryz.prog 120=some [(0,9,1),(1,104,1)]:=by kernel_rfl
theorem Lv:Sz Tryz.prog 120 2=true:=by kernel_rfl
theorem Nv:hJ Tryz.prog 122=some [(0,3,1),(1,120,2)]:=by kernel_rfl
theorem MF:Sz Tryz.prog 122 3=true:=by kernel_rfl
theorem Oy:Sl Tryz.prog 33 122 3=true:=by kernel_rfl
theorem NJ:hJ Tryz.prog 35=some [(0,33,1),(1,3,1)]:=by kernel_rfl
theorem L8:Sz Tryz.prog 35 2=true:=by kernel_rfl
theorem Hg {w:World}:Rdt Tryz.prog w 237 az wV:=fun H enc sp held n cs x hx=>by
  obtain ⟨ps,n1,hps,hl,hp⟩:=cR (fl:=[(0,3,1),(1,3,1),(2,9,1)]) Mb rfl Lp hx
  match ps,hl with
  | [q0,q1,q2],_=>
    obtain ⟨y0,t0⟩:=hp 0 _ _ _ q0 rfl rfl
    obtain ⟨F0,z0,r0,-,w0⟩:=(jY uk) _ _ _ _ _ _ _ t0
    obtain ⟨rfl,rfl⟩:=r0
    obtain ⟨y1,t1⟩:=hp 1 _ _ _ q1 rfl rfl
    obtain ⟨F1,z1,r1,-,w1⟩:=(jY uk) _ _ _ _ _ _ _ t1
    obtain ⟨rfl,rfl⟩:=r1
    obtain ⟨y2,t2⟩:=hp 2 _ _ _ q2 rfl rfl
    obtain ⟨F2,z2,r2,-,w2⟩:=(sT C9) _ _ _ _ _ _ _ t2
    obtain ⟨rfl,rfl⟩:=r2
    have R:az (Eng.hp w) _ cs (⟨z0,z1,z2⟩:aL):=⟨by rw [hps]; rfl,rfl⟩
    exact ⟨_,_,R,az.knows _ _ _ _ R,⟨w0,w1,w2⟩⟩
theorem Az {w:World}:Rdt Tryz.prog w 239 bQ uu:=fun H enc sp held n cs x hx=>by
  obtain ⟨ps,n1,hps,hl,hp⟩:=cR (fl:=[(0,3,1),(1,9,1),(2,237,3)]) Lk rfl Ln hx
  match ps,hl with
  | [q0,q1,q2],_=>
    obtain ⟨y0,t0⟩:=hp 0 _ _ _ q0 rfl rfl
    obtain ⟨F0,z0,r0,-,w0⟩:=(jY uk) _ _ _ _ _ _ _ t0
    obtain ⟨rfl,rfl⟩:=r0
    obtain ⟨y1,t1⟩:=hp 1 _ _ _ q1 rfl rfl
    obtain ⟨F1,z1,r1,-,w1⟩:=(sT C9) _ _ _ _ _ _ _ t1
    obtain ⟨rfl,rfl⟩:=r1
    obtain ⟨y2,t2⟩:=hp 2 _ _ _ q2 rfl rfl
    obtain ⟨F2,z2,r2,-,w2⟩:=Hg _ _ _ _ _ _ _ t2
    obtain ⟨rfl,rfl⟩:=r2
    have R:bQ (Eng.hp w) _ cs (⟨z0,z1,z2⟩:be):=⟨by rw [hps]; rfl,rfl⟩
    exact ⟨_,_,R,bQ.knows _ _ _ _ R,⟨w0,w1,w2⟩⟩
theorem M8 {w:World}:Rdt Tryz.prog w 235 bJ Ey:=fun H enc sp held n cs x hx=>by
  obtain ⟨ps,n1,hps,hl,hp⟩:=cR (fl:=[(0,9,1),(1,233,1),(2,4,1)]) MC rfl M2 hx
  match ps,hl with
  | [q0,q1,q2],_=>
    obtain ⟨y0,t0⟩:=hp 0 _ _ _ q0 rfl rfl
    obtain ⟨F0,z0,r0,-,w0⟩:=(sT C9) _ _ _ _ _ _ _ t0
    obtain ⟨rfl,rfl⟩:=r0
    obtain ⟨y1,t1⟩:=hp 1 _ _ _ q1 rfl rfl
    obtain ⟨F1,z1,r1,-,w1⟩:=(dk Lq Az rfl) _ _ _ _ _ _ _ t1
    obtain ⟨s1,rfl,r1⟩:=r1
    obtain ⟨y2,t2⟩:=hp 2 _ _ _ q2 rfl rfl
    obtain ⟨F2,z2,r2,-,w2⟩:=(Kd P8) _ _ _ _ _ _ _ t2
    obtain ⟨rfl,rfl⟩:=r2
    have R:bJ (Eng.hp w) _ cs (⟨z0,z1,z2⟩:av):=⟨s1,F1,by rw [hps]; rfl,rfl,r1⟩
    exact ⟨_,_,R,bJ.knows _ _ _ _ R,⟨w0,w1,w2⟩⟩
theorem MW {w:World}:Rdt Tryz.prog w 241 bd z5:=fun H enc sp held n cs x hx=>by
  obtain ⟨ps,n1,hps,hl,hp⟩:=cR (fl:=[(0,3,1),(1,239,5),(6,239,5)]) LW rfl MT hx
  match ps,hl with
  | [q0,q1,q2],_=>
    obtain ⟨y0,t0⟩:=hp 0 _ _ _ q0 rfl rfl
    obtain ⟨F0,z0,r0,-,w0⟩:=(jY uk) _ _ _ _ _ _ _ t0
    obtain ⟨rfl,rfl⟩:=r0
    obtain ⟨y1,t1⟩:=hp 1 _ _ _ q1 rfl rfl
    obtain ⟨F1,z1,r1,-,w1⟩:=Az _ _ _ _ _ _ _ t1
    obtain ⟨rfl,rfl⟩:=r1
    obtain ⟨y2,t2⟩:=hp 2 _ _ _ q2 rfl rfl
    obtain ⟨F2,z2,r2,-,w2⟩:=Az _ _ _ _ _ _ _ t2
    obtain ⟨rfl,rfl⟩:=r2
    have R:bd (Eng.hp w) _ cs (⟨z0,z1,z2⟩:bn):=⟨by rw [hps]; rfl,rfl⟩
    exact ⟨_,_,R,bd.knows _ _ _ _ R,⟨w0,w1,w2⟩⟩
theorem LH {w:World}:Rdt Tryz.prog w 307 bu yY:=fun H enc sp held n cs x hx=>by
  obtain ⟨ps,n1,hps,hl,hp⟩:=cR (fl:=[(0,9,1),(1,239,5),(6,239,5)]) MN rfl Mc hx
  match ps,hl with
  | [q0,q1,q2],_=>
    obtain ⟨y0,t0⟩:=hp 0 _ _ _ q0 rfl rfl
    obtain ⟨F0,z0,r0,-,w0⟩:=(sT C9) _ _ _ _ _ _ _ t0
    obtain ⟨rfl,rfl⟩:=r0
    obtain ⟨y1,t1⟩:=hp 1 _ _ _ q1 rfl rfl
    obtain ⟨F1,z1,r1,-,w1⟩:=Az _ _ _ _ _ _ _ t1
    obtain ⟨rfl,rfl⟩:=r1
    obtain ⟨y2,t2⟩:=hp 2 _ _ _ q2 rfl rfl
    obtain ⟨F2,z2,r2,-,w2⟩:=Az _ _ _ _ _ _ _ t2
    obtain ⟨rfl,rfl⟩:=r2
    have R:bu (Eng.hp w) _ cs (⟨z0,z1,z2⟩:bk):=⟨by rw [hps]; rfl,rfl⟩
    exact ⟨_,_,R,bu.knows _ _ _ _ R,⟨w0,w1,w2⟩⟩
theorem Nb {w:World}:Rdt Tryz.prog w 245 dF EV:=fun H enc sp held n cs x hx=>by
  obtain ⟨ps,n1,hps,hl,hp⟩:=cR (fl:=[(0,3,1),(1,9,1),(2,243,1),(3,3,1),(4,9,1)]) ME rfl Mz hx
  match ps,hl with
  | [q0,q1,q2,q3,q4],_=>
    obtain ⟨y0,t0⟩:=hp 0 _ _ _ q0 rfl rfl
    obtain ⟨F0,z0,r0,-,w0⟩:=(jY uk) _ _ _ _ _ _ _ t0
    obtain ⟨rfl,rfl⟩:=r0
    obtain ⟨y1,t1⟩:=hp 1 _ _ _ q1 rfl rfl
    obtain ⟨F1,z1,r1,-,w1⟩:=(sT C9) _ _ _ _ _ _ _ t1
    obtain ⟨rfl,rfl⟩:=r1
    obtain ⟨y2,t2⟩:=hp 2 _ _ _ q2 rfl rfl
    obtain ⟨F2,z2,r2,-,w2⟩:=(dk M6 LH rfl) _ _ _ _ _ _ _ t2
    obtain ⟨s2,rfl,r2⟩:=r2
    obtain ⟨y3,t3⟩:=hp 3 _ _ _ q3 rfl rfl
    obtain ⟨F3,z3,r3,-,w3⟩:=(jY uk) _ _ _ _ _ _ _ t3
    obtain ⟨rfl,rfl⟩:=r3
    obtain ⟨y4,t4⟩:=hp 4 _ _ _ q4 rfl rfl
    obtain ⟨F4,z4,r4,-,w4⟩:=(sT C9) _ _ _ _ _ _ _ t4
    obtain ⟨rfl,rfl⟩:=r4
    have R:dF (Eng.hp w) _ cs (⟨z0,z1,z2,z3,z4⟩:bM):=⟨s2,F2,by rw [hps]; rfl,rfl,r2⟩
    exact ⟨_,_,R,dF.knows _ _ _ _ R,⟨w0,w1,w2,w3,w4⟩⟩
theorem Lz {w:World}:Rdt Tryz.prog w 102 cf yV:=fun H enc sp held n cs x hx=>by
  obtain ⟨ps,n1,hps,hl,hp⟩:=cR (fl:=[(0,9,1),(1,3,1),(2,98,1),(3,99,1),(4,100,1)]) MQ rfl N2 hx
  match ps,hl with
  | [q0,q1,q2,q3,q4],_=>
    obtain ⟨y0,t0⟩:=hp 0 _ _ _ q0 rfl rfl
    obtain ⟨F0,z0,r0,-,w0⟩:=(sT C9) _ _ _ _ _ _ _ t0
    obtain ⟨rfl,rfl⟩:=r0
    obtain ⟨y1,t1⟩:=hp 1 _ _ _ q1 rfl rfl
    obtain ⟨F1,z1,r1,-,w1⟩:=(jY uk) _ _ _ _ _ _ _ t1
    obtain ⟨rfl,rfl⟩:=r1
    obtain ⟨y2,t2⟩:=hp 2 _ _ _ q2 rfl rfl
    obtain ⟨F2,z2,r2,-,w2⟩:=(dk NX M8 rfl) _ _ _ _ _ _ _ t2
    obtain ⟨s2,rfl,r2⟩:=r2
    obtain ⟨y3,t3⟩:=hp 3 _ _ _ q3 rfl rfl
    obtain ⟨F3,z3,r3,-,w3⟩:=(dk O5 MW rfl) _ _ _ _ _ _ _ t3
    obtain ⟨s3,rfl,r3⟩:=r3
    obtain ⟨y4,t4⟩:=hp 4 _ _ _ q4 rfl rfl
    obtain ⟨F4,z4,r4,-,w4⟩:=(dk Np Nb rfl) _ _ _ _ _ _ _ t4
    obtain ⟨s4,rfl,r4⟩:=r4
    have R:cf (Eng.hp w) _ cs (⟨z0,z1,z2,z3,z4⟩:ag):=⟨s2,F2,s3,F3,s4,F4,by rw [hps]; rfl,rfl,r2,r3,r4⟩
    exact ⟨_,_,R,cf.knows _ _ _ _ R,⟨w0,w1,w2,w3,w4⟩⟩
theorem On {w:World}:Rdt Tryz.prog w 24 u9 EZ:=fun H enc sp held n cs x hx=>by
  obtain ⟨ps,n1,hps,hl,hp⟩:=cR (fl:=[(0,9,1),(1,22,1)]) Ob rfl Lh hx
  match ps,hl with
  | [q0,q1],_=>
    obtain ⟨y0,t0⟩:=hp 0 _ _ _ q0 rfl rfl
    obtain ⟨F0,z0,r0,-,w0⟩:=(sT C9) _ _ _ _ _ _ _ t0
    obtain ⟨rfl,rfl⟩:=r0
    obtain ⟨y1,t1⟩:=hp 1 _ _ _ q1 rfl rfl
    obtain ⟨F1,z1,r1,-,w1⟩:=(dk Ot Lz rfl) _ _ _ _ _ _ _ t1
    obtain ⟨s1,rfl,r1⟩:=r1
    have R:u9 (Eng.hp w) _ cs (⟨z0,z1⟩:bo):=⟨s1,F1,by rw [hps]; rfl,rfl,r1⟩
    exact ⟨_,_,R,u9.knows _ _ _ _ R,⟨w0,w1⟩⟩
theorem No {w:World}:Rdt Tryz.prog w 107 bf wO:=fun H enc sp held n cs x hx=>by
  obtain ⟨ps,n1,hps,hl,hp⟩:=cR (fl:=[(0,9,1),(1,3,1),(2,104,1),(3,105,1)]) LT rfl LQ hx
  match ps,hl with
  | [q0,q1,q2,q3],_=>
    obtain ⟨y0,t0⟩:=hp 0 _ _ _ q0 rfl rfl
    obtain ⟨F0,z0,r0,-,w0⟩:=(sT C9) _ _ _ _ _ _ _ t0
    obtain ⟨rfl,rfl⟩:=r0
    obtain ⟨y1,t1⟩:=hp 1 _ _ _ q1 rfl rfl
    obtain ⟨F1,z1,r1,-,w1⟩:=(jY uk) _ _ _ _ _ _ _ t1
    obtain ⟨rfl,rfl⟩:=r1
    obtain ⟨y2,t2⟩:=hp 2 _ _ _ q2 rfl rfl
    obtain ⟨F2,z2,r2,-,w2⟩:=(dk Jl Hg rfl) _ _ _ _ _ _ _ t2
    obtain ⟨s2,rfl,r2⟩:=r2
    obtain ⟨y3,t3⟩:=hp 3 _ _ _ q3 rfl rfl
    obtain ⟨F3,z3,r3,-,w3⟩:=(dk aR (jY uk) rfl) _ _ _ _ _ _ _ t3
    obtain ⟨s3,rfl,r3⟩:=r3
    have R:bf (Eng.hp w) _ cs (⟨z0,z1,z2,z3⟩:a9):=⟨s2,F2,s3,F3,by rw [hps]; rfl,rfl,r2,r3⟩
    exact ⟨_,_,R,bf.knows _ _ _ _ R,⟨w0,w1,w2,w3⟩⟩
theorem LG {w:World}:Rdt Tryz.prog w 110 bz wR:=fun H enc sp held n cs x hx=>by
  obtain ⟨ps,n1,hps,hl,hp⟩:=cR (fl:=[(0,105,1),(1,105,1)]) LR rfl MO hx
  match ps,hl with
  | [q0,q1],_=>
    obtain ⟨y0,t0⟩:=hp 0 _ _ _ q0 rfl rfl
    obtain ⟨F0,z0,r0,-,w0⟩:=(dk aR (jY uk) rfl) _ _ _ _ _ _ _ t0
    obtain ⟨s0,rfl,r0⟩:=r0
    obtain ⟨y1,t1⟩:=hp 1 _ _ _ q1 rfl rfl
    obtain ⟨F1,z1,r1,-,w1⟩:=(dk aR (jY uk) rfl) _ _ _ _ _ _ _ t1
    obtain ⟨s1,rfl,r1⟩:=r1
    have R:bz (Eng.hp w) _ cs (⟨z0,z1⟩:ae):=⟨s0,F0,s1,F1,by rw [hps]; rfl,rfl,r0,r1⟩
    exact ⟨_,_,R,bz.knows _ _ _ _ R,⟨w0,w1⟩⟩
theorem Oz {w:World}:Rdt Tryz.prog w 28 ud EK:=fun H enc sp held n cs x hx=>by
  obtain ⟨ps,n1,hps,hl,hp⟩:=cR (fl:=[(0,25,1),(1,26,1)]) Oe rfl L9 hx
  match ps,hl with
  | [q0,q1],_=>
    obtain ⟨y0,t0⟩:=hp 0 _ _ _ q0 rfl rfl
    obtain ⟨F0,z0,r0,-,w0⟩:=(dk NL No rfl) _ _ _ _ _ _ _ t0
    obtain ⟨s0,rfl,r0⟩:=r0
    obtain ⟨y1,t1⟩:=hp 1 _ _ _ q1 rfl rfl
    obtain ⟨F1,z1,r1,-,w1⟩:=(dk NB LG rfl) _ _ _ _ _ _ _ t1
    obtain ⟨s1,rfl,r1⟩:=r1
    have R:ud (Eng.hp w) _ cs (⟨z0,z1⟩:bc):=⟨s0,F0,s1,F1,by rw [hps]; rfl,rfl,r0,r1⟩
    exact ⟨_,_,R,ud.knows _ _ _ _ R,⟨w0,w1⟩⟩
theorem Nc {w:World}:Rdt Tryz.prog w 113 dD Ez:=fun H enc sp held n cs x hx=>by
  obtain ⟨ps,n1,hps,hl,hp⟩:=cR (fl:=[(0,105,1)]) Nd rfl MH hx
  match ps,hl with
  | [q0],_=>
    obtain ⟨y0,t0⟩:=hp 0 _ _ _ q0 rfl rfl
    obtain ⟨F0,z0,r0,-,w0⟩:=(dk aR (jY uk) rfl) _ _ _ _ _ _ _ t0
    obtain ⟨s0,rfl,r0⟩:=r0
    have R:dD (Eng.hp w) _ cs (⟨z0⟩:aS):=⟨s0,F0,by rw [hps]; rfl,rfl,r0⟩
    exact ⟨_,_,R,dD.knows _ _ _ _ R,w0⟩
theorem Nq {w:World}:Rdt Tryz.prog w 309 cD xL:=fun H enc sp held n cs x hx=>by
  obtain ⟨ps,n1,hps,hl,hp⟩:=cR (fl:=[(0,105,1),(1,105,1)]) N0 rfl LB hx
  match ps,hl with
  | [q0,q1],_=>
    obtain ⟨y0,t0⟩:=hp 0 _ _ _ q0 rfl rfl
    obtain ⟨F0,z0,r0,-,w0⟩:=(dk aR (jY uk) rfl) _ _ _ _ _ _ _ t0
    obtain ⟨s0,rfl,r0⟩:=r0
    obtain ⟨y1,t1⟩:=hp 1 _ _ _ q1 rfl rfl
    obtain ⟨F1,z1,r1,-,w1⟩:=(dk aR (jY uk) rfl) _ _ _ _ _ _ _ t1
    obtain ⟨s1,rfl,r1⟩:=r1
    have R:cD (Eng.hp w) _ cs (⟨z0,z1⟩:ab):=⟨s0,F0,s1,F1,by rw [hps]; rfl,rfl,r0,r1⟩
    exact ⟨_,_,R,cD.knows _ _ _ _ R,⟨w0,w1⟩⟩
theorem LO {w:World}:Rdt Tryz.prog w 250 ed sX:=fun H enc sp held n cs x hx=>by
  obtain ⟨ps,n1,hps,hl,hp⟩:=cR (fl:=[(0,248,1)]) LD rfl Mw hx
  match ps,hl with
  | [q0],_=>
    obtain ⟨y0,t0⟩:=hp 0 _ _ _ q0 rfl rfl
    obtain ⟨F0,z0,r0,-,w0⟩:=(dk N6 Nq rfl) _ _ _ _ _ _ _ t0
    obtain ⟨s0,rfl,r0⟩:=r0
    have R:ed (Eng.hp w) _ cs (⟨z0⟩:aa):=⟨s0,F0,by rw [hps]; rfl,rfl,r0⟩
    exact ⟨_,_,R,ed.knows _ _ _ _ R,w0⟩
theorem MI {w:World}:Rdt Tryz.prog w 117 fM A3:=fun H enc sp held n cs x hx=>by
  obtain ⟨ps,n1,hps,hl,hp⟩:=cR (fl:=[(0,115,1)]) Ma rfl LI hx
  match ps,hl with
  | [q0],_=>
    obtain ⟨y0,t0⟩:=hp 0 _ _ _ q0 rfl rfl
    obtain ⟨F0,z0,r0,-,w0⟩:=(dk Mf LO rfl) _ _ _ _ _ _ _ t0
    obtain ⟨s0,rfl,r0⟩:=r0
    have R:fM (Eng.hp w) _ cs (⟨z0⟩:aF):=⟨s0,F0,by rw [hps]; rfl,rfl,r0⟩
    exact ⟨_,_,R,fM.knows _ _ _ _ R,w0⟩
theorem O3 {w:World}:Rdt Tryz.prog w 32 ui xD:=fun H enc sp held n cs x hx=>by
  obtain ⟨ps,n1,hps,hl,hp⟩:=cR (fl:=[(0,29,1),(1,30,1)]) Oh rfl L6 hx
  match ps,hl with
  | [q0,q1],_=>
    obtain ⟨y0,t0⟩:=hp 0 _ _ _ q0 rfl rfl
    obtain ⟨F0,z0,r0,-,w0⟩:=(dk O8 Nc rfl) _ _ _ _ _ _ _ t0
    obtain ⟨s0,rfl,r0⟩:=r0
    obtain ⟨y1,t1⟩:=hp 1 _ _ _ q1 rfl rfl
    obtain ⟨F1,z1,r1,-,w1⟩:=(dk ND MI rfl) _ _ _ _ _ _ _ t1
    obtain ⟨s1,rfl,r1⟩:=r1
    have R:ui (Eng.hp w) _ cs (⟨z0,z1⟩:aA):=⟨s0,F0,s1,F1,by rw [hps]; rfl,rfl,r0,r1⟩
    exact ⟨_,_,R,ui.knows _ _ _ _ R,⟨w0,w1⟩⟩
theorem N9 {w:World}:Rdt Tryz.prog w 120 pH DQ:=fun H enc sp held n cs x hx=>by
  obtain ⟨ps,n1,hps,hl,hp⟩:=cR (fl:=[(0,9,1),(1,104,1)]) Mu rfl Lv hx
  match ps,hl with
  | [q0,q1],_=>
    obtain ⟨y0,t0⟩:=hp 0 _ _ _ q0 rfl rfl
    obtain ⟨F0,z0,r0,-,w0⟩:=(sT C9) _ _ _ _ _ _ _ t0
    obtain ⟨rfl,rfl⟩:=r0
    obtain ⟨y1,t1⟩:=hp 1 _ _ _ q1 rfl rfl
    obtain ⟨F1,z1,r1,-,w1⟩:=(dk Jl Hg rfl) _ _ _ _ _ _ _ t1
    obtain ⟨s1,rfl,r1⟩:=r1
    have R:pH (Eng.hp w) _ cs (⟨z0,z1⟩:aw):=⟨s1,F1,by rw [hps]; rfl,rfl,r1⟩
    exact ⟨_,_,R,pH.knows _ _ _ _ R,⟨w0,w1⟩⟩
theorem MR {w:World}:Rdt Tryz.prog w 122 bE yS:=fun H enc sp held n cs x hx=>by
  obtain ⟨ps,n1,hps,hl,hp⟩:=cR (fl:=[(0,3,1),(1,120,2)]) Nv rfl MF hx
  match ps,hl with
  | [q0,q1],_=>
    obtain ⟨y0,t0⟩:=hp 0 _ _ _ q0 rfl rfl
    obtain ⟨F0,z0,r0,-,w0⟩:=(jY uk) _ _ _ _ _ _ _ t0
    obtain ⟨rfl,rfl⟩:=r0
    obtain ⟨y1,t1⟩:=hp 1 _ _ _ q1 rfl rfl
    obtain ⟨F1,z1,r1,-,w1⟩:=N9 _ _ _ _ _ _ _ t1
    obtain ⟨s1_0,G1_0,rfl,rfl,h1_0⟩:=r1
    have R:bE (Eng.hp w) _ cs (⟨z0,z1⟩:aC):=⟨s1_0,F1,by rw [hps]; rfl,rfl,h1_0⟩
    exact ⟨_,_,R,bE.knows _ _ _ _ R,⟨w0,w1⟩⟩
theorem NM {w:World}:Rdt Tryz.prog w 35 lr wD:=fun H enc sp held n cs x hx=>by
  obtain ⟨ps,n1,hps,hl,hp⟩:=cR (fl:=[(0,33,1),(1,3,1)]) NJ rfl L8 hx
  match ps,hl with
  | [q0,q1],_=>
    obtain ⟨y0,t0⟩:=hp 0 _ _ _ q0 rfl rfl
    obtain ⟨F0,z0,r0,-,w0⟩:=(dk Oy MR rfl) _ _ _ _ _ _ _ t0
    obtain ⟨s0,rfl,r0⟩:=r0
    obtain ⟨y1,t1⟩:=hp 1 _ _ _ q1 rfl rfl
    obtain ⟨F1,z1,r1,-,w1⟩:=(jY uk) _ _ _ _ _ _ _ t1
    obtain ⟨rfl,rfl⟩:=r1
    have R:lr (Eng.hp w) _ cs (⟨z0,z1⟩:ah):=⟨s0,F0,by rw [hps]; rfl,rfl,r0⟩
    exact ⟨_,_,R,lr.knows _ _ _ _ R,⟨w0,w1⟩⟩
theorem own:ownKnob Tryz.prog.godebug=none:=by kernel_rfl
theorem wv:laidOutB Tryz.prog=true:=by kernel_rfl
set_option maxRecDepth 100000 in
theorem lifted (os:Os) (started:os.Started) (H:Type) (enc:TypeId × Value→H) :
    ReturnsInHanded {} Tryz.checked os 3 .any (Rows.fnExactAddItemSpec.pre6 enc Tryz.prog Tryz.f3 Rows.fnExactAddItemRow.domain false) (Rows.fnExactAddItemSpec.post enc Tryz.prog Tryz.f3 false true false false):=by
  refine returnsInHanded_of_change (C:=Tryz.checked) own started (by kernel_rfl) Tryz.func3
    (ChangeSpec.witness6 (enc:=enc) (C:=Tryz.checked) false ⟨#[],#[.agg #[.string ⟨#[]⟩,.slice none 0 0],.agg #[.slice none 0 0,.slice none 0 0],.agg #[.slice none 0 0,.slice none 0 0],.agg #[.slice none 0 0,.int .i64 0],.int .i64 0],[]⟩ 8 (by kernel_rfl) (by kernel_rfl) (by kernel_rfl) (by kernel_rfl)) ?_
  intro W base args ds gs before hval0 hW hcnd _
  have hval:∀ (j:Nat) t v,Tryz.f3.params[j]?=some t→args[j]?=some v→Value.okWide Tryz.prog W .any base t v:=hval0
  have hW':=hW
  obtain ⟨p,q,hA0,hV,rfl,hfz,hnd⟩:=hW
  have hA:DataW.TrodAll enc Tryz.prog W 0 (fun _=>true) true Tryz.f3.params.toList args.toList ds p:=hA0
  rw [Tryz.params3] at hA hval
  obtain ⟨v0,vs0,d0,ds0,p0,q0,hargs,rfl,rfl,h0,r0⟩:=trodAll_cons hA
  obtain ⟨v1,vs1,d1,ds1,p1,q1,rfl,rfl,rfl,h1,r1⟩:=trodAll_cons r0
  obtain ⟨v2,vs2,d2,ds2,p2,q2,rfl,rfl,rfl,h2,r2⟩:=trodAll_cons r1
  obtain ⟨v3,vs3,d3,ds3,p3,q3,rfl,rfl,rfl,h3,r3⟩:=trodAll_cons r2
  obtain ⟨v4,vs4,d4,ds4,p4,q4,rfl,rfl,rfl,h4,r4⟩:=trodAll_cons r3
  obtain ⟨rfl,rfl,rfl⟩:=trodAll_nil r4
  obtain rfl:args = #[v0,v1,v2,v3,v4]:=by cases args; simp_all
  obtain ⟨rfl,rfl⟩:=trodVars_none hV
  have k0:=h0
  have lt0:∀ x∈p0,x.block < W.heap.size:=by obtain ⟨m,hm⟩:=k0; exact DataW.trod_lt m _ _ _ hm
  have k1:=h1
  have lt1:∀ x∈p1,x.block < W.heap.size:=by obtain ⟨m,hm⟩:=k1; exact DataW.trod_lt m _ _ _ hm
  have k2:=h2
  have lt2:∀ x∈p2,x.block < W.heap.size:=by obtain ⟨m,hm⟩:=k2; exact DataW.trod_lt m _ _ _ hm
  have k3:=h3
  have lt3:∀ x∈p3,x.block < W.heap.size:=by obtain ⟨m,hm⟩:=k3; exact DataW.trod_lt m _ _ _ hm
  have k4:=h4
  have lt4:∀ x∈p4,x.block < W.heap.size:=by obtain ⟨m,hm⟩:=k4; exact DataW.trod_lt m _ _ _ hm
  obtain ⟨m0,hm0⟩:=h0
  obtain ⟨G0,x0,e0,-,w0⟩:=On _ _ _ _ _ _ _ hm0
  obtain ⟨cs0,rfl⟩:=Dy (hval 0 24 v0 rfl rfl) Lh (by kernel_rfl)
  obtain ⟨s0_0,F0_0,hc0,-,q0_0⟩:=e0
  obtain rfl:=uZ hc0
  obtain ⟨m1,hm1⟩:=h1
  obtain ⟨G1,x1,e1,-,w1⟩:=Oz _ _ _ _ _ _ _ hm1
  obtain ⟨cs1,rfl⟩:=Dy (hval 1 28 v1 rfl rfl) L9 (by kernel_rfl)
  obtain ⟨s1_0,F1_0,s1_1,F1_1,hc1,-,q1_0,q1_1⟩:=e1
  obtain rfl:=uZ hc1
  obtain ⟨m2,hm2⟩:=h2
  obtain ⟨G2,x2,e2,-,w2⟩:=O3 _ _ _ _ _ _ _ hm2
  obtain ⟨cs2,rfl⟩:=Dy (hval 2 32 v2 rfl rfl) L6 (by kernel_rfl)
  obtain ⟨s2_0,F2_0,s2_1,F2_1,hc2,-,q2_0,q2_1⟩:=e2
  obtain rfl:=uZ hc2
  obtain ⟨m3,hm3⟩:=h3
  obtain ⟨G3,x3,e3,-,w3⟩:=NM _ _ _ _ _ _ _ hm3
  obtain ⟨cs3,rfl⟩:=Dy (hval 3 35 v3 rfl rfl) L8 (by kernel_rfl)
  obtain ⟨s3_0,F3_0,hc3,-,q3_0⟩:=e3
  obtain rfl:=uZ hc3
  obtain ⟨m4,hm4⟩:=h4
  obtain ⟨G4,x4,e4,-,w4⟩:=(jY uk) _ _ _ _ _ _ _ hm4
  obtain ⟨hc4,-⟩:=e4
  obtain rfl:=MX (hval 4 3 v4 rfl rfl) uk hc4
  clear hA0 hval0
  refine (uj 1399511627776 (ba (NG W)) x0 x1 x2 x3 x4 q0_0 q1_0 q1_1 q2_0 q2_1 q3_0 (law w0 w1 w2 w3 w4)).mono fun e W1 ⟨he,bel⟩=>?_
  subst he
  replace bel:=bel.toBelow
  exact ⟨_,rfl,_,_,_,[],_,[],hW',trodAll_mk1 (shut_bool (by kernel_rfl:Tryz.prog.underlying 4=some .bool) _),(trodAll_cons_mk (Below.trod wv (by kernel_rfl) (of_decide_eq_true (by kernel_rfl)) k0 bel lt0) (trodAll_cons_mk (Below.trod wv (by kernel_rfl) (of_decide_eq_true (by kernel_rfl)) k1 bel lt1) (trodAll_cons_mk (Below.trod wv (by kernel_rfl) (of_decide_eq_true (by kernel_rfl)) k2 bel lt2) (trodAll_cons_mk (Below.trod wv (by kernel_rfl) (of_decide_eq_true (by kernel_rfl)) k3 bel lt3) (trodAll_cons_mk (Below.trod wv (by kernel_rfl) (of_decide_eq_true (by kernel_rfl)) k4 bel lt4) trodAll_mk0))))),rfl,bel.frame _,fun h=>by cases h⟩

theorem named:Tryz.pinned.checked.prog.funcNamed Rows.fnExactAddItemRow.func=some 3:=by kernel_rfl
theorem lF {a b:Bool} (ha:a=true) (hb:b=true):(a && b)=true:=by rw [ha,hb]; rfl
theorem cl0:(Rows.fnExactAddItemRow.wf (OpenSpec.ofChange Rows.fnExactAddItemSpec))=true:=by kernel_rfl
theorem cl1:(laidOutB Tryz.pinned.checked.prog)=true:=by kernel_rfl
theorem cl2:(mapsRowed Tryz.pinned.checked.prog)=true:=by kernel_rfl
theorem cl3:(Tryz.f3.params.all (Tryz.pinned.checked.prog.readableRec ·))=true:=by kernel_rfl
theorem cl4:(namedTie Tryz.pinned.checked.prog Rows.fnExactAddItemRow.named Rows.fnExactAddItemSpec.vars)=true:=by kernel_rfl
theorem cl5:((Rows.fnExactAddItemRow.stops == []))=true:=by kernel_rfl
theorem cl6:((Tryz.pinned.checked.prog.stops == []))=true:=by kernel_rfl
theorem cl7:((Rows.fnExactAddItemRow.knobs == []))=true:=by kernel_rfl
theorem cl8:((Tryz.pinned.checked.prog.stopKnobs == []))=true:=by kernel_rfl
theorem cl9:((Rows.fnExactAddItemRow.inPlace == Tryz.pinned.checked.prog.inPlace 3))=true:=by kernel_rfl
theorem Pc:((Rows.fnExactAddItemRow.unfollowed == Tryz.pinned.checked.prog.unfollowed 3))=true:=by kernel_rfl
theorem OK:((Rows.fnExactAddItemRow.recurses == Tryz.pinned.checked.prog.recurses 3))=true:=by kernel_rfl
theorem OG:((Rows.fnExactAddItemRow.named == Tryz.pinned.checked.prog.varsNamed 3))=true:=by kernel_rfl
theorem OF:((Rows.fnExactAddItemRow.maps == (Tryz.f3.params.toList++Rows.fnExactAddItemSpec.plain.varTypes Tryz.pinned.checked.prog).any (Tryz.pinned.checked.prog.mapsRec ·)))=true:=by kernel_rfl
theorem OJ:((Rows.fnExactAddItemRow.ifaces == (Tryz.f3.params.toList++Rows.fnExactAddItemSpec.plain.varTypes Tryz.pinned.checked.prog).any (Tryz.pinned.checked.prog.ifacesRec ·)))=true:=by kernel_rfl
theorem P0:((Rows.fnExactAddItemRow.mapsOut == Tryz.pinned.checked.prog.mapsAmong Tryz.f3.resultTypes.toList))=true:=by kernel_rfl
theorem OP:((Rows.fnExactAddItemRow.loops == (Tryz.f3.params.toList++Rows.fnExactAddItemSpec.plain.varTypes Tryz.pinned.checked.prog).any (Tryz.pinned.checked.prog.loopsFrom ·)))=true:=by kernel_rfl
theorem OO:((Rows.fnExactAddItemRow.wideKeys == (Tryz.f3.params.toList++Rows.fnExactAddItemSpec.plain.varTypes Tryz.pinned.checked.prog++Tryz.f3.resultTypes.toList).any (Tryz.pinned.checked.prog.wideKeysFrom ·)))=true:=by kernel_rfl
theorem OL:(Rows.fnExactAddItemSpec.vars.all (Tryz.pinned.checked.prog.varReadable ·))=true:=by kernel_rfl
theorem P3:(Tryz.f3.resultTypes.all (fun t=>Tryz.pinned.checked.prog.readableRec t && decide (t < Tryz.pinned.checked.prog.types.size)))=true:=by kernel_rfl
theorem OC:((Rows.fnExactAddItemRow.ifacesOut == Tryz.f3.resultTypes.toList.any (Tryz.pinned.checked.prog.ifacesRec ·)))=true:=by kernel_rfl
theorem OI:((Rows.fnExactAddItemRow.loopsOut == Tryz.f3.resultTypes.toList.any (Tryz.pinned.checked.prog.loopsFrom ·)))=true:=by kernel_rfl
theorem OS:((Rows.fnExactAddItemRow.plainKeys == Tryz.pinned.checked.prog.plainKeys))=true:=by kernel_rfl
theorem P1:(Rows.fnExactAddItemRow.shortTexts.isNone)=true:=by kernel_rfl
theorem ON:(Tryz.pinned.checked.prog.stopsHeard)=true:=by kernel_rfl
theorem OY:(Tryz.pinned.checked.prog.mayEnter)=true:=by kernel_rfl
theorem OH:((Rows.fnExactAddItemRow.lifted == Tryz.pinned.checked.prog.liftsFinal))=true:=by kernel_rfl
theorem OW:((Tryz.pinned.checked.prog.make == some Rows.fnExactAddItemRow.make))=true:=by kernel_rfl
theorem OE:((Rows.fnExactAddItemRow.kinds == (if Rows.fnExactAddItemRow.domain.isEmpty then [] else Tryz.f3.params.toList.map fun t=>match Tryz.pinned.checked.prog.underlying t with | some (.int k)=>some k | _=>none)))=true:=by kernel_rfl
theorem OV:((Rows.fnExactAddItemRow.pinned == Rows.fnExactAddItemRow.pinnedBy))=true:=by kernel_rfl
theorem P6:((Rows.fnExactAddItemRow.veiled == (Tryz.f3.params.toList++Rows.fnExactAddItemSpec.plain.varTypes Tryz.pinned.checked.prog++Tryz.f3.resultTypes.toList).any (Tryz.pinned.checked.prog.veiledRec ·)))=true:=by kernel_rfl
theorem OM:(Rows.fnExactAddItemRow.veiledFits Tryz.pinned.checked.prog Tryz.f3.params.toList (Tryz.f3.params.toList++Rows.fnExactAddItemSpec.plain.varTypes Tryz.pinned.checked.prog++Tryz.f3.resultTypes.toList))=true:=by kernel_rfl
set_option maxRecDepth 100000 in
theorem Mi:joinedFacts Tryz.pinned.checked.prog 3 Tryz.f3 Rows.fnExactAddItemSpec Rows.fnExactAddItemRow=true:=by
  unfold joinedFacts
  exact (lF (lF (lF (lF (lF (lF (lF (lF (lF (lF (lF (lF (lF (lF (lF (lF (lF (lF (lF (lF (lF (lF (lF (lF (lF (lF (lF (lF (lF (lF (lF cl0 cl1) cl2) cl3) cl4) cl5) cl6) cl7) cl8) cl9) Pc) OK) OG) OF) OJ) P0) OP) OO) OL) P3) OC) OI) OS) P1) ON) OY) OH) OW) OE) OV) P6) OM)
theorem inst:Tryz.f3.isInstance Tryz.pinned.checked.prog Rows.fnExactAddItemRow.origin Rows.fnExactAddItemRow.targs:=of_decide_eq_true (by kernel_rfl)
theorem KE:Tryz.f3.isWrapper Tryz.pinned.checked.prog Rows.fnExactAddItemRow.wrapper Rows.fnExactAddItemRow.mainSum:=by unfold Func.isWrapper; first | (rw [if_pos (by decide +kernel)]; kernel_rfl) | (rw [if_neg (by decide +kernel)]; exact ⟨rfl,rfl⟩)
theorem OZ:Rows.fnExactAddItemRow.holds Tryz.pinned (OpenSpec.ofChange Rows.fnExactAddItemSpec):=
  OpenClaim.holds_of_wide 3 Tryz.f3 rfl rfl rfl rfl rfl rfl rfl ⟨rfl,rfl,rfl,rfl,rfl⟩ rfl rfl rfl rfl rfl named Tryz.func3 Mi inst KE
    (fun os started H enc _=>lifted os started H enc)

/-- The statement. -/
theorem proved:Rows.FnExactAddItemSaid:=OZ
#print axioms proved
end Go.Proofs.YtnnkgijdbebnaaaGreat.fnExactAddItem
