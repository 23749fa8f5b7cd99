/- Printed by a program of ours: each Go function computes its Lean function. -/
import Derived.Test.YtedmfnmbjglmbaaGreatProg
import Derived.Test.YtedmfnmbjglmbaaGreatWBuiltUpSort
import Derived.Test.YtedmfnmbjglmbaaGreatEP
namespace Go.Proofs.YtedmfnmbjglmbaaGreat
open Eng Tryz
open Go.RowKit (Below)
set_option linter.unusedVariables false
set_option linter.unusedSimpArgs false

set_option maxRecDepth 100000
set_option maxHeartbeats 1000000
theorem mixed:prog.follows .mixedOrders=true:=by kernel_rfl
theorem B3:Sl prog 22 5 1=true:=by kernel_rfl
theorem Lf:T1 prog 5=true:=by kernel_rfl
theorem Dm:Ik prog 5 .u8=true:=by kernel_rfl
theorem tg:Ik prog 3 .i64=true:=by kernel_rfl
theorem Iw:Pl prog 144 #[(0,1),(1,1),(2,1)]=true:=by kernel_rfl
theorem IM:(prog.info? 144).map (·.zero)=some (some (.agg #[.slice none 0 0,iV 0,iV 0])):=by kernel_rfl
theorem y4:Fld prog 144 2 2=true:=by kernel_rfl
theorem BU:T1 prog 3=true:=by kernel_rfl
theorem tV:Sz prog 3 1=true:=by kernel_rfl
theorem DS:Fld prog 144 1 1=true:=by kernel_rfl
theorem dF:Sl prog 146 9 1=true:=by kernel_rfl
theorem ub:Fun prog 75=true:=by kernel_rfl
theorem K8:T1 prog 9=true:=by kernel_rfl
theorem dQ:Sl prog 60 3 1=true:=by kernel_rfl
theorem lQ:(prog.info? 9).map (·.zero)=some (some (.string ⟨#[]⟩)):=by kernel_rfl
theorem nK:Sl prog 199 171 5=true:=by kernel_rfl
theorem Dv:Fld prog 171 0 0=true:=by kernel_rfl
theorem yw:Fld prog 171 1 1=true:=by kernel_rfl
theorem Bw:madeCells (Value.string ⟨#[]⟩:Value).cells (1*1) = #[.string ⟨#[]⟩]:=by kernel_rfl
theorem Je:(prog.info? 9).map (fun i=>(i.zero,i.size,i.bytes))=some (some (.string ⟨#[]⟩),1,16):=by kernel_rfl
theorem FR:Fld prog 87 2 2=true:=by kernel_rfl
theorem qF:Sl prog 83 201 3=true:=by kernel_rfl
theorem w7:Tn prog 201 3=true:=by kernel_rfl
theorem lz:Fld prog 201 2 2=true:=by kernel_rfl
theorem gF:(prog.info? 95).map (·.zero)=some (some (.agg #[iV 0,iV 0,.string ⟨#[]⟩])):=by kernel_rfl
theorem qY:Pl prog 95 #[(0,1),(1,1),(2,1)]=true:=by kernel_rfl
theorem mW:Sz prog 95 3=true:=by kernel_rfl
theorem mV:Tn prog 95 3=true:=by kernel_rfl
theorem ux:madeCells (Value.string ⟨#[]⟩:Value).cells (2*1) = #[.string ⟨#[]⟩,.string ⟨#[]⟩]:=by kernel_rfl
theorem B9:Fun prog 88=true:=by kernel_rfl
theorem gl:(prog.info? 171).map (·.zero)=some (some (.agg #[iV 0,.string ⟨#[]⟩,iV 0,iV 0,.string ⟨#[]⟩])):=by kernel_rfl
theorem qM:Pl prog 171 #[(0,1),(1,1),(2,3)]=true:=by kernel_rfl
theorem gV:Sz prog 171 5=true:=by kernel_rfl
theorem lT:Tn prog 171 5=true:=by kernel_rfl
theorem GW:Fun prog 126=true:=by kernel_rfl
theorem ut:madeCells (Value.string ⟨#[]⟩:Value).cells (4*1) = #[.string ⟨#[]⟩,.string ⟨#[]⟩,.string ⟨#[]⟩,.string ⟨#[]⟩]:=by kernel_rfl
theorem iU:(prog.info? 201).map (·.zero)=some (some (.agg #[.string ⟨#[]⟩,.slice none 0 0,.bool false])):=by kernel_rfl
theorem Jj:Pl prog 201 #[(0,1),(1,1),(2,1)]=true:=by kernel_rfl
theorem mP:Sz prog 201 3=true:=by kernel_rfl
theorem Dw:Fld prog 201 0 0=true:=by kernel_rfl
theorem vH:Fun prog 205=true:=by kernel_rfl
theorem tX:madeCells (Value.agg #[iV 0,.string ⟨#[]⟩,iV 0,iV 0,.string ⟨#[]⟩]:Value).cells (1*5) = #[iV 0,.string ⟨#[]⟩,iV 0,iV 0,.string ⟨#[]⟩]:=by kernel_rfl
theorem yM:(prog.info? 171).map (fun i=>(i.zero,i.size,i.bytes))=some (some (.agg #[iV 0,.string ⟨#[]⟩,iV 0,iV 0,.string ⟨#[]⟩]),5,56):=by kernel_rfl
theorem zH:Sz prog 199 1=true:=by kernel_rfl
theorem nI:(prog.info? 173).map (·.zero)=some (some (.agg #[iV 0,iV 0,.string ⟨#[]⟩,iV 0,iV 0,.string ⟨#[]⟩,iV 0,.string ⟨#[]⟩,iV 0,iV 0,.string ⟨#[]⟩])):=by kernel_rfl
theorem IA:Pl prog 173 #[(0,1),(1,5),(6,5)]=true:=by kernel_rfl
theorem sQ:Sz prog 173 11=true:=by kernel_rfl
theorem Gf:Tn prog 173 11=true:=by kernel_rfl
theorem qU:(prog.info? 216).map (·.zero)=some (some (.agg #[.string ⟨#[]⟩,iV 0,.string ⟨#[]⟩,iV 0,iV 0,.string ⟨#[]⟩,iV 0,.string ⟨#[]⟩,iV 0,iV 0,.string ⟨#[]⟩])):=by kernel_rfl
theorem FF:Pl prog 216 #[(0,1),(1,5),(6,5)]=true:=by kernel_rfl
theorem zz:Sz prog 216 11=true:=by kernel_rfl
theorem Jy:Tn prog 216 11=true:=by kernel_rfl
theorem yI:Fld prog 216 0 0=true:=by kernel_rfl
theorem xQ:Sz prog 9 1=true:=by kernel_rfl
theorem rF:Fld prog 216 2 6=true:=by kernel_rfl
theorem ot:(prog.info? 213).map (·.zero)=some (some (.agg #[iV 0,.string ⟨#[]⟩,.slice none 0 0,iV 0,.string ⟨#[]⟩])):=by kernel_rfl
theorem Jb:madeCells (Value.int .i64 0:Value).cells (8*1) = #[iV 0,iV 0,iV 0,iV 0,iV 0,iV 0,iV 0,iV 0]:=by kernel_rfl
theorem ou:(prog.info? 3).map (·.zero)=some (some (iV 0)):=by kernel_rfl
theorem Jx:Pl prog 213 #[(0,1),(1,1),(2,1),(3,1),(4,1)]=true:=by kernel_rfl
theorem qy:Sz prog 213 5=true:=by kernel_rfl
theorem yv:Fld prog 213 0 0=true:=by kernel_rfl
theorem rN:Fld prog 213 3 3=true:=by kernel_rfl
theorem xh:Tn prog 213 5=true:=by kernel_rfl
theorem FG:madeCells (Value.string ⟨#[]⟩:Value).cells (5*1) = #[.string ⟨#[]⟩,.string ⟨#[]⟩,.string ⟨#[]⟩,.string ⟨#[]⟩,.string ⟨#[]⟩]:=by kernel_rfl
theorem yy:Fld prog 213 1 1=true:=by kernel_rfl
theorem lG:Fld prog 213 2 2=true:=by kernel_rfl
theorem ze:T1 prog 211=true:=by kernel_rfl
theorem Gy:Fun prog 209=true:=by kernel_rfl
theorem zX:madeCells (Value.agg #[.string ⟨#[]⟩,iV 0,.string ⟨#[]⟩,iV 0,iV 0,.string ⟨#[]⟩,iV 0,.string ⟨#[]⟩,iV 0,iV 0,.string ⟨#[]⟩]:Value).cells (1*11) = #[.string ⟨#[]⟩,iV 0,.string ⟨#[]⟩,iV 0,iV 0,.string ⟨#[]⟩,iV 0,.string ⟨#[]⟩,iV 0,iV 0,.string ⟨#[]⟩]:=by kernel_rfl
theorem rc:Sl prog 211 216 11=true:=by kernel_rfl
theorem Eq:(prog.info? 216).map (fun i=>(i.zero,i.size,i.bytes))=some (some (.agg #[.string ⟨#[]⟩,iV 0,.string ⟨#[]⟩,iV 0,iV 0,.string ⟨#[]⟩,iV 0,.string ⟨#[]⟩,iV 0,iV 0,.string ⟨#[]⟩]),11,128):=by kernel_rfl
theorem EL:Sz prog 211 1=true:=by kernel_rfl
theorem y8:Fld prog 213 4 4=true:=by kernel_rfl
theorem Bu:madeCells (Value.int .i64 0:Value).cells (4*1) = #[iV 0,iV 0,iV 0,iV 0]:=by kernel_rfl
theorem p8:(prog.info? 87).map (·.zero)=some (some (.agg #[.string ⟨#[]⟩,iV 0,.slice none 0 0,.slice none 0 0,.slice none 0 0])):=by kernel_rfl
theorem JI:madeCells (Value.int .i64 0:Value).cells (5*1) = #[iV 0,iV 0,iV 0,iV 0,iV 0]:=by kernel_rfl
theorem Kz:Pl prog 87 #[(0,1),(1,1),(2,1),(3,1),(4,1)]=true:=by kernel_rfl
theorem qG:Sz prog 87 5=true:=by kernel_rfl
theorem Cp:Fun prog 150=true:=by kernel_rfl
theorem tB:madeCells (Value.agg #[.string ⟨#[]⟩,.slice none 0 0,.bool false]:Value).cells (1*3) = #[.string ⟨#[]⟩,.slice none 0 0,.bool false]:=by kernel_rfl
theorem wi:(prog.info? 201).map (fun i=>(i.zero,i.size,i.bytes))=some (some (.agg #[.string ⟨#[]⟩,.slice none 0 0,.bool false]),3,48):=by kernel_rfl
theorem Cx:Sz prog 83 1=true:=by kernel_rfl
theorem wW:Tn prog 87 5=true:=by kernel_rfl
theorem Hb:Fun prog 105=true:=by kernel_rfl
theorem ud:Fld prog 216 1 1=true:=by kernel_rfl
theorem wk:Fld prog 87 4 4=true:=by kernel_rfl
theorem B4:madeCells (Value.agg #[iV 0,.string ⟨#[]⟩,.slice none 0 0,iV 0,.string ⟨#[]⟩]:Value).cells (1*5) = #[iV 0,.string ⟨#[]⟩,.slice none 0 0,iV 0,.string ⟨#[]⟩]:=by kernel_rfl
theorem xc:Sl prog 85 213 5=true:=by kernel_rfl
theorem BH:(prog.info? 213).map (fun i=>(i.zero,i.size,i.bytes))=some (some (.agg #[iV 0,.string ⟨#[]⟩,.slice none 0 0,iV 0,.string ⟨#[]⟩]),5,72):=by kernel_rfl
theorem Fw:Sz prog 85 1=true:=by kernel_rfl
theorem uh:Fld prog 173 1 1=true:=by kernel_rfl
theorem uf:Fld prog 173 2 6=true:=by kernel_rfl
theorem Al:Fld prog 87 3 3=true:=by kernel_rfl
theorem A0:madeCells (Value.agg #[iV 0,iV 0,.string ⟨#[]⟩,iV 0,iV 0,.string ⟨#[]⟩,iV 0,.string ⟨#[]⟩,iV 0,iV 0,.string ⟨#[]⟩]:Value).cells (1*11) = #[iV 0,iV 0,.string ⟨#[]⟩,iV 0,iV 0,.string ⟨#[]⟩,iV 0,.string ⟨#[]⟩,iV 0,iV 0,.string ⟨#[]⟩]:=by kernel_rfl
theorem yA:Sl prog 84 173 11=true:=by kernel_rfl
theorem B8:(prog.info? 173).map (fun i=>(i.zero,i.size,i.bytes))=some (some (.agg #[iV 0,iV 0,.string ⟨#[]⟩,iV 0,iV 0,.string ⟨#[]⟩,iV 0,.string ⟨#[]⟩,iV 0,iV 0,.string ⟨#[]⟩]),11,120):=by kernel_rfl
theorem I5:Sz prog 84 1=true:=by kernel_rfl
theorem uO:(prog.info? 26).map (·.zero)=some (some (.agg #[.string ⟨#[]⟩,.slice none 0 0])):=by kernel_rfl
theorem rk:madeCells (Value.string ⟨#[]⟩:Value).cells (3*1) = #[.string ⟨#[]⟩,.string ⟨#[]⟩,.string ⟨#[]⟩]:=by kernel_rfl
theorem Ku:Pl prog 26 #[(0,1),(1,1)]=true:=by kernel_rfl
theorem vd:Sz prog 26 2=true:=by kernel_rfl
theorem pI:Fld prog 26 1 1=true:=by kernel_rfl
theorem CE:T1 prog 24=true:=by kernel_rfl
theorem IN:Fun prog 89=true:=by kernel_rfl
theorem Cd:madeCells (Value.agg #[.string ⟨#[]⟩,iV 0,.slice none 0 0,.slice none 0 0,.slice none 0 0]:Value).cells (1*5) = #[.string ⟨#[]⟩,iV 0,.slice none 0 0,.slice none 0 0,.slice none 0 0]:=by kernel_rfl
theorem sH:Sl prog 24 87 5=true:=by kernel_rfl
theorem Ig:(prog.info? 87).map (fun i=>(i.zero,i.size,i.bytes))=some (some (.agg #[.string ⟨#[]⟩,iV 0,.slice none 0 0,.slice none 0 0,.slice none 0 0]),5,96):=by kernel_rfl
theorem FD:Sz prog 24 1=true:=by kernel_rfl
theorem y5:Tn prog 26 2=true:=by kernel_rfl
theorem ox:(prog.info? 52).map (·.zero)=some (some (.agg #[.string ⟨#[]⟩,.slice none 0 0])):=by kernel_rfl
theorem CW:Pl prog 52 #[(0,1),(1,1)]=true:=by kernel_rfl
theorem qO:Sz prog 52 2=true:=by kernel_rfl
theorem Em:Fld prog 52 0 0=true:=by kernel_rfl
theorem EP:Fld prog 52 1 1=true:=by kernel_rfl
theorem tv:madeCells (Value.agg #[iV 0,iV 0,.string ⟨#[]⟩]:Value).cells (1*3) = #[iV 0,iV 0,.string ⟨#[]⟩]:=by kernel_rfl
theorem iZ:Sl prog 50 95 3=true:=by kernel_rfl
theorem yx:(prog.info? 95).map (fun i=>(i.zero,i.size,i.bytes))=some (some (.agg #[iV 0,iV 0,.string ⟨#[]⟩]),3,32):=by kernel_rfl
theorem Ag:Sz prog 50 1=true:=by kernel_rfl
theorem rq:Tn prog 52 2=true:=by kernel_rfl
theorem GA:madeCells (Value.agg #[iV 0,.string ⟨#[]⟩,.slice none 0 0]:Value).cells (0*3) = #[]:=by kernel_rfl
theorem nS:Sl prog 27 66 3=true:=by kernel_rfl
theorem pA:(prog.info? 66).map (·.zero)=some (some (.agg #[iV 0,.string ⟨#[]⟩,.slice none 0 0])):=by kernel_rfl
theorem kO:Fld prog 29 0 0=true:=by kernel_rfl
theorem KD:T1 prog 27=true:=by kernel_rfl
theorem tx:Fld prog 66 0 0=true:=by kernel_rfl
theorem yX:madeCells (Value.agg #[iV 0,.string ⟨#[]⟩,.slice none 0 0]:Value).cells (1*3) = #[iV 0,.string ⟨#[]⟩,.slice none 0 0]:=by kernel_rfl
theorem Gg:(prog.info? 66).map (fun i=>(i.zero,i.size,i.bytes))=some (some (.agg #[iV 0,.string ⟨#[]⟩,.slice none 0 0]),3,48):=by kernel_rfl
theorem Ck:Sz prog 27 1=true:=by kernel_rfl
theorem oU:EqT prog 95 [.i .i64,.i .i64,.s]=true:=by kernel_rfl
theorem AF:Fld prog 66 1 1=true:=by kernel_rfl
theorem GV:Fun prog 108=true:=by kernel_rfl
theorem rz:Tn prog 29 2=true:=by kernel_rfl
theorem Ff:Fun prog 48=true:=by kernel_rfl
theorem tH:Fld prog 29 1 1=true:=by kernel_rfl
theorem Hc:Fun prog 154=true:=by kernel_rfl
theorem I0:Pl prog 66 #[(0,1),(1,2)]=true:=by kernel_rfl
theorem tD:(prog.info? 29).map (·.zero)=some (some (.agg #[.slice none 0 0,iV 0])):=by kernel_rfl
theorem Ic:Pl prog 29 #[(0,1),(1,1)]=true:=by kernel_rfl
theorem vk:Sz prog 29 2=true:=by kernel_rfl
theorem IY:Fun prog 90=true:=by kernel_rfl
theorem E3:Fld prog 173 0 0=true:=by kernel_rfl
theorem Fx:madeCells (Value.agg #[.string ⟨#[]⟩,.slice none 0 0,.bool false]:Value).cells (0*3) = #[]:=by kernel_rfl
theorem xi:Fld prog 87 0 0=true:=by kernel_rfl
theorem Ee:madeCells (Value.int .i64 0:Value).cells (3*1) = #[iV 0,iV 0,iV 0]:=by kernel_rfl
theorem Ft:Fld prog 87 1 1=true:=by kernel_rfl
theorem GM:Fun prog 155=true:=by kernel_rfl
theorem Fk:madeCells (Value.agg #[iV 0,.string ⟨#[]⟩,.slice none 0 0,iV 0,.string ⟨#[]⟩]:Value).cells (0*5) = #[]:=by kernel_rfl
theorem Ll:Sz prog 4 1=true:=by kernel_rfl
theorem JO:Fun prog 93=true:=by kernel_rfl
theorem EJ:Fld prog 26 0 0=true:=by kernel_rfl
theorem IF:Fun prog 92=true:=by kernel_rfl
theorem IT:madeCells (Value.int .i64 0:Value).cells (7*1) = #[iV 0,iV 0,iV 0,iV 0,iV 0,iV 0,iV 0]:=by kernel_rfl
theorem GQ:Fun prog 159=true:=by kernel_rfl
theorem FY:Fld prog 95 0 0=true:=by kernel_rfl
theorem BZ:madeCells (Value.int .i64 0:Value).cells (2*1) = #[iV 0,iV 0]:=by kernel_rfl
theorem Er:Fld prog 95 1 1=true:=by kernel_rfl
theorem Eb:Fld prog 95 2 2=true:=by kernel_rfl
theorem GF:Fun prog 158=true:=by kernel_rfl
theorem IK:Fun prog 95=true:=by kernel_rfl
theorem jG:Str prog 9=true:=by kernel_rfl
theorem JC:Fun prog 97=true:=by kernel_rfl
theorem CR:Fun prog 165=true:=by kernel_rfl
theorem Hx:Fun prog 211=true:=by kernel_rfl
theorem Ks:Bo prog 4=true:=by kernel_rfl
theorem CU:EqT prog 171 [.i .i64,.s,.i .i64,.i .i64,.s]=true:=by kernel_rfl
theorem Ai:madeCells (Value.agg #[iV 0,.string ⟨#[]⟩,iV 0,iV 0,.string ⟨#[]⟩]:Value).cells (2*5) = #[iV 0,.string ⟨#[]⟩,iV 0,iV 0,.string ⟨#[]⟩,iV 0,.string ⟨#[]⟩,iV 0,iV 0,.string ⟨#[]⟩]:=by kernel_rfl
theorem Ha:Fun prog 164=true:=by kernel_rfl
theorem HG:Fun prog 170=true:=by kernel_rfl
theorem wI:Sz prog 66 3=true:=by kernel_rfl
theorem JJ:Fun prog 63=true:=by kernel_rfl
theorem HE:Fun prog 196=true:=by kernel_rfl
theorem Di:Fld prog 137 3 3=true:=by kernel_rfl
theorem Ii:T1 prog 60=true:=by kernel_rfl
theorem Dn:Fld prog 137 2 2=true:=by kernel_rfl
theorem BD:(prog.info? 191).map (·.zero)=some (some (.agg #[.slice none 0 0,.slice none 0 0,.slice none 0 0,.slice none 0 0,.slice none 0 0,.slice none 0 0,iV 0,iV 0])):=by kernel_rfl
theorem En:Fld prog 47 1 1=true:=by kernel_rfl
theorem Fm:Sl prog 45 141 2=true:=by kernel_rfl
theorem JL:Tn prog 141 2=true:=by kernel_rfl
theorem Ab:Fld prog 35 0 0=true:=by kernel_rfl
theorem I3:T1 prog 32=true:=by kernel_rfl
theorem CC:Fun prog 115=true:=by kernel_rfl
theorem Is:Pl prog 191 #[(0,1),(1,1),(2,2),(4,1),(5,2),(7,1)]=true:=by kernel_rfl
theorem Gc:Sz prog 191 8=true:=by kernel_rfl
theorem El:Tn prog 191 8=true:=by kernel_rfl
theorem uR:Sl prog 61 97 4=true:=by kernel_rfl
theorem Cv:(prog.info? 97).map (·.zero)=some (some (.agg #[.string ⟨#[]⟩,iV 0,iV 0,.string ⟨#[]⟩])):=by kernel_rfl
theorem HQ:(prog.info? 97).map (fun i=>(i.zero,i.size,i.bytes))=some (some (.agg #[.string ⟨#[]⟩,iV 0,iV 0,.string ⟨#[]⟩]),4,48):=by kernel_rfl
theorem HY:Tn prog 97 4=true:=by kernel_rfl
theorem KF:Sz prog 97 4=true:=by kernel_rfl
theorem Hg:Fun prog 222=true:=by kernel_rfl
theorem Kd:Pl prog 97 #[(0,1),(1,3)]=true:=by kernel_rfl
theorem GZ:madeCells (Value.agg #[.string ⟨#[]⟩,iV 0,iV 0,.string ⟨#[]⟩]:Value).cells (1*4) = #[.string ⟨#[]⟩,iV 0,iV 0,.string ⟨#[]⟩]:=by kernel_rfl
theorem CO:Fun prog 184=true:=by kernel_rfl
theorem lJ:Sl prog 101 105 2=true:=by kernel_rfl
theorem II:Tn prog 105 2=true:=by kernel_rfl
theorem om:(prog.info? 105).map (·.zero)=some (some (.agg #[.slice none 0 0,.slice none 0 0])):=by kernel_rfl
theorem ta:Sz prog 105 2=true:=by kernel_rfl
theorem Ax:madeCells (Value.agg #[.slice none 0 0,.slice none 0 0]:Value).cells (0*2) = #[]:=by kernel_rfl
theorem ue:(prog.info? 105).map (fun i=>(i.zero,i.size,i.bytes))=some (some (.agg #[.slice none 0 0,.slice none 0 0]),2,48):=by kernel_rfl
theorem yY:(prog.info? 3).map (fun i=>(i.zero,i.size,i.bytes))=some (some (iV 0),1,8):=by kernel_rfl
theorem BE:Fun prog 56=true:=by kernel_rfl
theorem oW:madeCells (Value.int .i64 0:Value).cells (1*1) = #[iV 0]:=by kernel_rfl
theorem IC:Pl prog 105 #[(0,1),(1,1)]=true:=by kernel_rfl
theorem FB:madeCells (Value.agg #[.slice none 0 0,.slice none 0 0]:Value).cells (1*2) = #[.slice none 0 0,.slice none 0 0]:=by kernel_rfl
theorem zZ:Sz prog 60 1=true:=by kernel_rfl
theorem FO:Sl prog 98 103 1=true:=by kernel_rfl
theorem pL:Fld prog 103 0 0=true:=by kernel_rfl
theorem Jr:T1 prog 101=true:=by kernel_rfl
theorem CV:Fun prog 179=true:=by kernel_rfl
theorem J4:Sz prog 101 1=true:=by kernel_rfl
theorem GU:Fun prog 197=true:=by kernel_rfl
theorem E4:Fld prog 141 0 0=true:=by kernel_rfl
theorem CT:Sl prog 32 133 1=true:=by kernel_rfl
theorem yd:Fld prog 133 0 0=true:=by kernel_rfl
theorem wH:Fld prog 47 0 0=true:=by kernel_rfl
theorem K3:T1 prog 44=true:=by kernel_rfl
theorem HS:Sl prog 44 137 4=true:=by kernel_rfl
theorem EX:Tn prog 137 4=true:=by kernel_rfl
theorem sJ:(prog.info? 137).map (·.zero)=some (some (.agg #[.string ⟨#[]⟩,iV 0,.slice none 0 0,.slice none 0 0])):=by kernel_rfl
theorem wL:Sz prog 137 4=true:=by kernel_rfl
theorem Gl:Fld prog 35 1 1=true:=by kernel_rfl
theorem Kp:T1 prog 33=true:=by kernel_rfl
theorem EK:Sl prog 33 100 1=true:=by kernel_rfl
theorem EZ:Tn prog 100 1=true:=by kernel_rfl
theorem wd:(prog.info? 100).map (·.zero)=some (some (.agg #[.slice none 0 0])):=by kernel_rfl
theorem Bl:Sz prog 100 1=true:=by kernel_rfl
theorem Ka:Tn prog 47 2=true:=by kernel_rfl
theorem yj:Tn prog 35 2=true:=by kernel_rfl
theorem rP:Fld prog 100 0 0=true:=by kernel_rfl
theorem HX:T1 prog 98=true:=by kernel_rfl
theorem Hq:Fun prog 134=true:=by kernel_rfl
theorem Jz:Pl prog 137 #[(0,1),(1,1),(2,1),(3,1)]=true:=by kernel_rfl
theorem Fl:madeCells (Value.agg #[.string ⟨#[]⟩,iV 0,.slice none 0 0,.slice none 0 0]:Value).cells (1*4) = #[.string ⟨#[]⟩,iV 0,.slice none 0 0,.slice none 0 0]:=by kernel_rfl
theorem JB:(prog.info? 137).map (fun i=>(i.zero,i.size,i.bytes))=some (some (.agg #[.string ⟨#[]⟩,iV 0,.slice none 0 0,.slice none 0 0]),4,72):=by kernel_rfl
theorem KE:Sz prog 44 1=true:=by kernel_rfl
theorem Fc:(prog.info? 47).map (·.zero)=some (some (.agg #[.slice none 0 0,.slice none 0 0])):=by kernel_rfl
theorem Bf:(prog.info? 141).map (·.zero)=some (some (.agg #[.slice none 0 0,.slice none 0 0])):=by kernel_rfl
theorem DR:Fld prog 141 1 1=true:=by kernel_rfl
theorem Gw:madeCells (Value.agg #[.slice none 0 0,.slice none 0 0]:Value).cells (1*2) = #[.slice none 0 0,.slice none 0 0]:=by kernel_rfl
theorem Iy:(prog.info? 141).map (fun i=>(i.zero,i.size,i.bytes))=some (some (.agg #[.slice none 0 0,.slice none 0 0]),2,48):=by kernel_rfl
theorem JR:Sz prog 45 1=true:=by kernel_rfl
theorem HM:Sz prog 47 2=true:=by kernel_rfl
theorem uX:(prog.info? 35).map (·.zero)=some (some (.agg #[.slice none 0 0,.slice none 0 0])):=by kernel_rfl
theorem Bv:(prog.info? 133).map (·.zero)=some (some (.agg #[.slice none 0 0])):=by kernel_rfl
theorem IW:By prog 133 24=true:=by kernel_rfl
theorem I8:Pl prog 35 #[(0,1),(1,1)]=true:=by kernel_rfl
theorem wY:Sz prog 35 2=true:=by kernel_rfl
theorem Jg:Sz prog 141 2=true:=by kernel_rfl
theorem BN:(prog.info? 103).map (·.zero)=some (some (.agg #[.slice none 0 0])):=by kernel_rfl
theorem Jl:By prog 103 24=true:=by kernel_rfl
theorem JM:Pl prog 100 #[(0,1)]=true:=by kernel_rfl
theorem Fv:madeCells (Value.agg #[.slice none 0 0]:Value).cells (1*1) = #[.slice none 0 0]:=by kernel_rfl
theorem Ja:(prog.info? 100).map (fun i=>(i.zero,i.size,i.bytes))=some (some (.agg #[.slice none 0 0]),1,24):=by kernel_rfl
theorem KK:Sz prog 33 1=true:=by kernel_rfl
theorem Im:Fun prog 68=true:=by kernel_rfl
theorem J5:Fun prog 42=true:=by kernel_rfl
theorem Jv:Fun prog 46=true:=by kernel_rfl
theorem IZ:Fun prog 45=true:=by kernel_rfl
theorem H9:Fun prog 102=true:=by kernel_rfl
theorem Hu:Fun prog 103=true:=by kernel_rfl
theorem HI:Fun prog 104=true:=by kernel_rfl
theorem J3:Fun prog 43=true:=by kernel_rfl
theorem Jt:Fun prog 44=true:=by kernel_rfl
theorem Jk:Fun prog 47=true:=by kernel_rfl
theorem EB:Tn prog 133 1=true:=by kernel_rfl
theorem Gr:Sz prog 133 1=true:=by kernel_rfl
theorem ET:Tn prog 103 1=true:=by kernel_rfl
theorem FN:Sz prog 103 1=true:=by kernel_rfl
theorem KN:Fun prog 259=true:=by kernel_rfl
theorem L0:Ik prog 278 .u32=true:=by kernel_rfl
theorem Ln:Ik prog 280 .u64=true:=by kernel_rfl
theorem rD:Ik prog 249 .u64=true:=by kernel_rfl
theorem LN:T1 prog 282=true:=by kernel_rfl
theorem Lq:Sz prog 282 1=true:=by kernel_rfl
theorem L3:Ik prog 282 .u64=true:=by kernel_rfl
theorem La:(prog.info? 282).map (·.zero)=some (some (.int .u64 0)):=by kernel_rfl
theorem KU:Fun prog 268=true:=by kernel_rfl
theorem KT:Fun prog 263=true:=by kernel_rfl
theorem KX:Fun prog 262=true:=by kernel_rfl
theorem KQ:Fun prog 242=true:=by kernel_rfl
theorem KR:Fun prog 243=true:=by kernel_rfl
theorem KZ:Fun prog 245=true:=by kernel_rfl
theorem KW:Fun prog 248=true:=by kernel_rfl
theorem KV:Fun prog 249=true:=by kernel_rfl
theorem KP:Fun prog 220=true:=by kernel_rfl
theorem KO:Fun prog 247=true:=by kernel_rfl
theorem KS:Fun prog 246=true:=by kernel_rfl
theorem KY:Fun prog 244=true:=by kernel_rfl
theorem Cw:Fun prog 181=true:=by kernel_rfl
theorem H4:Fun prog 183=true:=by kernel_rfl
theorem Hk:Fun prog 114=true:=by kernel_rfl
theorem Hj:Fun prog 110=true:=by kernel_rfl
theorem GX:Fun prog 112=true:=by kernel_rfl
theorem gp:Sl prog 41 63 3=true:=by kernel_rfl
theorem j6:Tn prog 63 3=true:=by kernel_rfl
theorem uU:(prog.info? 63).map (·.zero)=some (some (.agg #[iV 0,.slice none 0 0,.slice none 0 0])):=by kernel_rfl
theorem qQ:Sz prog 63 3=true:=by kernel_rfl
theorem Jc:EqT prog 97 [.s,.i .i64,.i .i64,.s]=true:=by kernel_rfl
theorem Jd:Fun prog 51=true:=by kernel_rfl
theorem zQ:Fun prog 253=true:=by kernel_rfl
theorem vL:Fun prog 188=true:=by kernel_rfl
theorem HF:Fun prog 225=true:=by kernel_rfl
theorem CM:Fun prog 187=true:=by kernel_rfl
theorem GY:Fun prog 118=true:=by kernel_rfl
theorem Ib:Pl prog 63 #[(0,1),(1,1),(2,1)]=true:=by kernel_rfl
theorem zK:madeCells (Value.agg #[iV 0,.slice none 0 0,.slice none 0 0]:Value).cells (1*3) = #[iV 0,.slice none 0 0,.slice none 0 0]:=by kernel_rfl
theorem CY:(prog.info? 63).map (fun i=>(i.zero,i.size,i.bytes))=some (some (.agg #[iV 0,.slice none 0 0,.slice none 0 0]),3,56):=by kernel_rfl
theorem IP:Fun prog 58=true:=by kernel_rfl
theorem JS:T1 prog 41=true:=by kernel_rfl
theorem Kq:Sz prog 41 1=true:=by kernel_rfl
theorem C0:Fun prog 190=true:=by kernel_rfl
theorem Kx:(prog.info? 41).map (·.zero)=some (some (.slice none 0 0)):=by kernel_rfl
theorem Io:Fun prog 15=true:=by kernel_rfl
theorem Iz:Fun prog 16=true:=by kernel_rfl
variable {Ψ Φ:Hp} {pv0 pv0_0 pv1 pv0_1 pv0_2:Value} {pG0 pG0_0 pG1 pG0_1 pG0_2:List Nat} {pb0:Nat} (N:Nat)
theorem BX (w0:av Ψ Φ []) (p0:(List Int)) (ph0:RSl (RI .u8) 1 Ψ pG0 pv0 p0) {r:Bool} (h:vw N p0=some r) :
  CB w0 prog 8 [pv0] (.bool r):=by
 refine eN func8 rfl ntmps8 rfl w0 fun hF=>?_
 unfold vw at h
 refine atr 7 [] rfl<|lnr ph0 rfl<|art 3 [] rfl ?_
 exact rt hF h
theorem zf (w0:av Ψ Φ []) (p0:(List Int)) (ph0:RSl (RI .u8) 1 Ψ pG0 pv0 p0) {r:a7} (h:pn N p0=some r) :
  Calls prog 34 [pv0].toArray w0.w (be Φ w0.w [] (fun Φ' Fs v=>∃ (b0:Nat) (sr_0_0:Value) (Gr_0_0:List Nat),v=pQ b0∧Fs=[[b0]]∧RSl (RI .u8) 1 Φ' Gr_0_0 sr_0_0 r.b∧(∀ k∈Gr_0_0,k∈pG0)∧Φ' b0=some (.cells #[sr_0_0,iV r.i,iV r.h] 144 (0,0)))):=by
 refine eN func34 rfl ntmps34 rfl w0 fun hF=>?_
 unfold pn at h
 refine atr 7 [] rfl<|lnr ph0 rfl<|art 9 [] rfl ?_
 refine lin (σ:=Int × Int) (fun s=>[(0,pv0),(3,iV s.1),(4,iV s.2)]) (fun s=>St w0 Φ [] []) (fun m s=>iy N p0 m s.1 s.2=some r) (wz (354354+(p0.length:Int)),0) N h (sx [] []) (fun n1 ih1 s hm=>?_)
 obtain ⟨s1,s2⟩:=s
 have h:iy N p0 (n1+1) s1 s2=some r:=hm
 show WT _ _ [(0,pv0),(3,iV s1),(4,iV s2)] (St w0 Φ [] [])
 unfold iy at h
 refine atr 5 [] rfl<|lnr ph0 rfl<|arr 2 [] rfl ?_
 obtain ⟨b1,hb_1,h⟩:=bs h
 refine WL.cutN 3 [(15,.bool b1),(0,pv0),(3,iV s1),(4,iV s2)] ?_ (fun K=>?_)
 rotate_left
 ·refine sp 12 hb_1 rfl (fun hb_1=>?_) fun hb_1=>?_
  ·refine arr 3 [] rfl ?_
   cases hb_1
   exact ku K
  ·refine arr 3 [] rfl ?_
   cases hb_1
   exact ku K
 refine en ?_
 refine ch h rfl ?_ ?_ <;> intro h
 ·refine atr 8 [] rfl ?_
  obtain ⟨x1,hx1,h⟩:=bs h
  obtain ⟨cs1,F1,-,g1,hb1,hs1,r1⟩:=ph0.el (ab hx1).2.2
  obtain ⟨rfl,-⟩:=r1
  refine lia ph0 hx1 rfl<|lhx 0 0 g1 rfl<|lq (iY Dm tg rfl) rfl<|arr 2 [] rfl<|lq (E7 rfl rfl) rfl<|art 8 [] rfl ?_
  exact lb [] [] (ih1 (_,_) h)
 refine atr 5 [] rfl<|lq (bz (vs:=[(0,pv0),(2,iV s1)]) (C:=#[pv0,iV 0,iV s1]) Iw IM rfl (a8 (C':=[pv0,iV 0,iV 0]) rfl (dK ph0.one) rfl rfl rfl (a8 (C':=[pv0,iV 0,iV s1]) rfl rfl rfl rfl rfl (ac)))) rfl<|lbx rfl fun b_1=>la rfl<|en ?_
 refine WT.frz (js:=[0]) (R:=[]) rfl (fun Φ_1 fr1 k1=>?_)
 exact rtg [0] hF (ay.one rfl) rfl (by cases h; exact fun w1 hw=>⟨b_1,pv0,pG0,rfl,rfl,(ph0.y hw.up),(fun k hk=>hk),k1⟩)
theorem m4 (w0:av Ψ Φ [[pb0]].flatten) (p0:a7) (ph0_0:RSl (RI .u8) 1 Ψ pG0_0 pv0_0 p0.b) (pp0:Φ pb0=some (.cells #[pv0_0,iV p0.i,iV p0.h] 144 (0,0))) {r:Int × a7} (h:je N p0=some r) :
  Calls prog 143 [pQ pb0].toArray w0.w (be Φ w0.w [[pb0]].flatten (fun Φ' Fs v=>v=iV r.1∧Fs=[[pb0]]∧r.2.b=p0.b∧Φ' pb0=some (.cells #[pv0_0,iV r.2.i,iV r.2.h] 144 (0,0)))):=by
 refine eL func143 rfl ntmps143 rfl (L:=[[pb0]]) w0 (fun hF=>?_)
 unfold je at h
 refine atr 8 [] rfl<|lq (bf rfl) rfl<|lf y4 rfl rfl rfl<|lgx 2 0 (fX pp0) rfl<|arr 2 [] rfl<|lq (bf rfl) rfl<|lf y4 rfl rfl rfl ?_
 refine WL.thw (js:=[0]) (R:=[]) rfl pp0 (fun Φ_1 ap1 fr1=>?_)
 refine so1 0 tV rfl rfl ?_
 refine en<|sq<|WT.draw mixed (by kernel_rfl) (fun _ h=>h.drew)<|qq (ke rfl) rfl<|qq (bf rfl) rfl<|aqq 2 [2,0] rfl<|qq (yp rfl rfl (by decide)) rfl<|qq (ke rfl) rfl<|qq (bf rfl) rfl<|aqq 2 [2,0] rfl<|qq (yp rfl rfl (by decide)) rfl<|qq (Ke rfl rfl) rfl<|qq (E7 rfl rfl) rfl<|aqt 4 [] rfl<|WT.draw mixed (by kernel_rfl) (fun _ h=>h.drew)<|qq (ke rfl) rfl<|qq (bf rfl) rfl<|aqq 3 [1,0] rfl<|qq (bf rfl) rfl<|aqq 2 [0,0] rfl<|qq (lM B3 rfl rfl ph0_0) rfl<|aqt 2 [] rfl ?_
 refine ch h rfl ?_ ?_ <;> intro h
 ·refine sq<|WT.draw mixed (by kernel_rfl) (fun _ h=>h.drew)<|aqq 2 [] rfl<|qq (bf rfl) rfl<|aqq 3 [0,0] rfl<|qq (bf rfl) rfl<|aqq 2 [1,0] rfl ?_
  obtain ⟨x1,hx1,h⟩:=bs h
  obtain ⟨cs1,F1,-,g1,hb1,hs1,r1⟩:=ph0_0.el (ab hx1).2.2
  obtain ⟨rfl,-⟩:=r1
  refine qq (aw B3 rfl rfl ph0_0 hx1) rfl<|qq (cz Lf rfl (fun w1 hw=>(g1.of_eq 0 1 rfl rfl:rg _ _ _ [.int .u8 x1]).rangeAt hw.in0)) rfl<|qq (iY Dm tg rfl) rfl<|qq (HN rfl rfl) rfl<|qq (E7 rfl rfl) rfl<|aqr 5 [] rfl<|lq (bf rfl) rfl<|arr 3 [1,0] rfl<|lq (bf rfl) rfl<|lf DS rfl rfl rfl<|so1 0 tV rfl rfl ?_
  refine art 6 [] rfl ?_
  refine WT.frz (js:=[0]) (R:=[]) rfl (fun Φ_2 fr2 k1=>?_)
  exact rtg [0] hF (ay.one rfl) rfl (by cases h; exact fun w1 hw=>⟨rfl,rfl,rfl,k1⟩)
 refine att 6 [] rfl ?_
 refine WT.frz (js:=[0]) (R:=[]) rfl (fun Φ_3 fr3 k2=>?_)
 exact rtg [0] hF (ay.one rfl) rfl (by cases h; exact fun w1 hw=>⟨rfl,rfl,rfl,k2⟩)
theorem az (w0:av Ψ Φ [[pb0]].flatten) (p0:a7) (p1:Int) (ph0_0:RSl (RI .u8) 1 Ψ pG0_0 pv0_0 p0.b) (pp0:Φ pb0=some (.cells #[pv0_0,iV p0.i,iV p0.h] 144 (0,0))) {r:Int × a7} (h:aJ N p0 p1=some r) :
  Calls prog 75 [pQ pb0,iV p1].toArray w0.w (be Φ w0.w [[pb0]].flatten (fun Φ' Fs v=>v=iV r.1∧Fs=[[pb0]]∧r.2.b=p0.b∧Φ' pb0=some (.cells #[pv0_0,iV r.2.i,iV r.2.h] 144 (0,0)))):=by
 refine eL func75 rfl ntmps75 rfl (L:=[[pb0]]) w0 (fun hF=>?_)
 unfold aJ at h
 refine att 10 [] rfl ?_
 refine ch h rfl ?_ ?_ <;> intro h
 ·refine att 4 [] rfl ?_
  exact rtg [0] hF (ay.one rfl) rfl (by cases h; exact fun w1 hw=>⟨rfl,rfl,rfl,pp0⟩)
 refine att 7 [] rfl ?_
 refine ch h rfl ?_ ?_ <;> intro h
 ·refine sr<|la rfl<|kcb [0] h rfl rfl rfl rfl (fun b ap z q=>m4 N b p0 (ph0_0.y z) pp0 q) ?_
  rintro x1 h v1 Φ_1 F1 ⟨ap1,fr1,rfl,rfl,e1,h1⟩
  refine la rfl ?_
  obtain ⟨x2,hx2,h⟩:=bs h
  refine lq (Fq rfl rfl hx2) rfl<|la rfl<|en ?_
  exact rtg [0] hF (ay.one rfl) rfl (by cases h; exact fun w1 hw=>⟨rfl,rfl,rfl,h1⟩)
 refine atr 4 [] rfl<|kcb [0] h rfl rfl rfl rfl (fun b ap z q=>m4 N b p0 (ph0_0.y z) pp0 q) ?_
 rintro x3 h v2 Φ_2 F2 ⟨ap2,fr2,rfl,rfl,e2,h2⟩
 refine arr 5 [] rfl<|kcb [0] h rfl rfl rfl rfl (fun b ap z q=>m4 N b (⟨p0.b,x3.2.i,x3.2.h⟩:a7) (ph0_0.y z) h2 q) ?_
 rintro x4 h v3 Φ_3 F3 ⟨ap3,fr3,rfl,rfl,e3,h3⟩
 refine arr 5 [] rfl<|kcb [0] h rfl rfl rfl rfl (fun b ap z q=>m4 N b (⟨p0.b,x4.2.i,x4.2.h⟩:a7) (ph0_0.y z) h3 q) ?_
 rintro x5 h v4 Φ_4 F4 ⟨ap4,fr4,rfl,rfl,e4,h4⟩
 refine arr 12 [] rfl ?_
 obtain ⟨x6,hx6,h⟩:=bs h
 refine lq (Fq rfl rfl hx6) rfl<|la rfl<|en ?_
 exact rtg [0] hF (ay.one rfl) rfl (by cases h; exact fun w1 hw=>⟨rfl,rfl,rfl,h4⟩)
theorem bA (w0:av Ψ Φ [[pb0]].flatten) (p0:a7) (p1:(List ByteArray)) (ph0_0:RSl (RI .u8) 1 Ψ pG0_0 pv0_0 p0.b) (pp0:Φ pb0=some (.cells #[pv0_0,iV p0.i,iV p0.h] 144 (0,0))) (ph1:RSl RS 1 Ψ pG1 pv1 p1) {r:ByteArray × a7} (h:cp N p0 p1=some r) :
  Calls prog 88 [pQ pb0,pv1].toArray w0.w (be Φ w0.w [[pb0]].flatten (fun Φ' Fs v=>v = .string r.1∧Fs=[[pb0]]∧r.2.b=p0.b∧Φ' pb0=some (.cells #[pv0_0,iV r.2.i,iV r.2.h] 144 (0,0)))):=by
 refine eL func88 rfl ntmps88 rfl (L:=[[pb0]]) w0 (fun hF=>?_)
 unfold cp at h
 refine atr 9 [] rfl<|lnr ph1 rfl<|kcb [0] h rfl rfl rfl rfl (fun b ap z q=>az N b p0 (p1.length:Int) (ph0_0.y z) pp0 q) ?_
 rintro x1 h v1 Φ_1 F1 ⟨ap1,fr1,rfl,rfl,e1,h1⟩
 obtain ⟨x2,hx2,h⟩:=bs h
 obtain ⟨cs1,F2,-,g1,hb1,hs1,r1⟩:=ph1.el (ab hx2).2.2
 obtain ⟨rfl,-⟩:=r1
 refine lia ph1 hx2 rfl<|lhx 0 0 g1 rfl<|la rfl<|en ?_
 exact rtg [0] hF (ay.one rfl) rfl (by cases h; exact fun w1 hw=>⟨rfl,rfl,rfl,h1⟩)
theorem cJ (w0:av Ψ Φ [[pb0]].flatten) (p0:a7) (p1:Int) (ph0_0:RSl (RI .u8) 1 Ψ pG0_0 pv0_0 p0.b) (pp0:Φ pb0=some (.cells #[pv0_0,iV p0.i,iV p0.h] 144 (0,0))) {r:Bool × a7} (h:d5 N p0 p1=some r) :
  Calls prog 37 [pQ pb0,iV p1].toArray w0.w (be Φ w0.w [[pb0]].flatten (fun Φ' Fs v=>v = .bool r.1∧Fs=[[pb0]]∧r.2.b=p0.b∧Φ' pb0=some (.cells #[pv0_0,iV r.2.i,iV r.2.h] 144 (0,0)))):=by
 refine eL func37 rfl ntmps37 rfl (L:=[[pb0]]) w0 (fun hF=>?_)
 unfold d5 at h
 refine atr 8 [] rfl<|kcb [0] h rfl rfl rfl rfl (fun b ap z q=>az N b p0 p1 (ph0_0.y z) pp0 q) ?_
 rintro x1 h v1 Φ_1 F1 ⟨ap1,fr1,rfl,rfl,e1,h1⟩
 refine art 3 [] rfl ?_
 exact rtg [0] hF (ay.one rfl) rfl (by cases h; exact fun w1 hw=>⟨rfl,rfl,rfl,h1⟩)
theorem gA (w0:av Ψ Φ [[pb0]].flatten) (p0:a7) (p1:(List Int)) (ph0_0:RSl (RI .u8) 1 Ψ pG0_0 pv0_0 p0.b) (pp0:Φ pb0=some (.cells #[pv0_0,iV p0.i,iV p0.h] 144 (0,0))) (ph1:RSl (RI .i64) 1 Ψ pG1 pv1 p1) {r:Int × a7} (h:gu N p0 p1=some r) :
  Calls prog 94 [pQ pb0,pv1].toArray w0.w (be Φ w0.w [[pb0]].flatten (fun Φ' Fs v=>v=iV r.1∧Fs=[[pb0]]∧r.2.b=p0.b∧Φ' pb0=some (.cells #[pv0_0,iV r.2.i,iV r.2.h] 144 (0,0)))):=by
 refine eL func94 rfl ntmps94 rfl (L:=[[pb0]]) w0 (fun hF=>?_)
 unfold gu at h
 refine atr 9 [] rfl<|lnr ph1 rfl<|kcb [0] h rfl rfl rfl rfl (fun b ap z q=>az N b p0 (p1.length:Int) (ph0_0.y z) pp0 q) ?_
 rintro x1 h v1 Φ_1 F1 ⟨ap1,fr1,rfl,rfl,e1,h1⟩
 obtain ⟨x2,hx2,h⟩:=bs h
 obtain ⟨cs1,F2,-,g1,hb1,hs1,r1⟩:=ph1.el (ab hx2).2.2
 obtain ⟨rfl,-⟩:=r1
 refine lia ph1 hx2 rfl<|lhx 0 0 g1 rfl<|la rfl<|en ?_
 exact rtg [0] hF (ay.one rfl) rfl (by cases h; exact fun w1 hw=>⟨rfl,rfl,rfl,h1⟩)
theorem qj (w0:av Ψ Φ []) (p0:(List ByteArray)) (p1:ByteArray) (ph0:RSl RS 1 Ψ pG0 pv0 p0) {r:Bool} (h:lB N p0 p1=some r) :
  CB w0 prog 172 [pv0,.string p1] (.bool r):=by
 refine eN func172 rfl ntmps172 rfl w0 fun hF=>?_
 unfold lB at h
 refine att 10 [] rfl ?_
 refine lin (σ:=Int) (fun s=>[(0,pv0),(1,.string p1),(5,iV s)]) (fun s=>St w0 Φ [] []) (fun m s=>iv N p0 p1 m s=some r) (0) N h (sx [] []) (fun n1 ih1 s hm=>?_)
 revert hm; revert s; intro s1 hm
 have h:iv N p0 p1 (n1+1) s1=some r:=hm
 show WT _ _ [(0,pv0),(1,.string p1),(5,iV s1)] (St w0 Φ [] [])
 unfold iv at h
 refine atr 5 [] rfl<|lnr ph0 rfl<|la rfl<|en ?_
 refine ch h rfl ?_ ?_ <;> intro h
 ·refine atr 7 [] rfl ?_
  obtain ⟨x1,hx1,h⟩:=bs h
  obtain ⟨cs1,F1,-,g1,hb1,hs1,r1⟩:=ph0.el (ab hx1).2.2
  obtain ⟨rfl,-⟩:=r1
  refine lia ph0 hx1 rfl<|lhx 0 0 g1 rfl<|art 3 [] rfl ?_
  refine ch h rfl ?_ ?_ <;> intro h
  ·refine att 4 [] rfl ?_
   exact rt hF h
  refine att 7 [] rfl ?_
  exact lb [] [] (ih1 _ h)
 refine att 5 [] rfl ?_
 exact rt hF h
theorem xR (w0:av Ψ Φ []) (p0:au) (ph0_0:RSl ck 5 Ψ pG0_0 pv0_0 p0.Args) {r:(List ByteArray)} (h:nR N p0=some r) :
  Calls prog 171 [.agg [.string p0.Kind,pv0_0,.bool p0.Not].toArray].toArray w0.w (be Φ w0.w [] (fun Φ' Fs v=>∃ (sr_0_0:Value),v=sr_0_0∧Fs=[ob sr_0_0]∧OSl RS 9 1 Φ' [] sr_0_0 r)):=by
 refine eN func171 rfl ntmps171 rfl w0 fun hF=>?_
 unfold nR at h
 refine sr<|lbx rfl fun b_1=>arr 4 [] rfl<|le' (sL RS.lasts dF lQ rfl rfl) rfl ?_
 rintro v1 Φ_1 D1 ⟨fr1,h1⟩
 refine art 8 [] rfl ?_
 refine lin (σ:=Hp × (List ByteArray) × Value × Int) (fun s=>[(1,pQ b_1),(3,s.2.2.1),(4,iV s.2.2.2)]) (fun s=>St w0 s.1 [(b_1,.cells #[.string p0.Kind,pv0_0,.bool p0.Not] 201 (0,0))] [ob s.2.2.1]) (fun m s=>fF N p0 m s.2.1 s.2.2.2=some r∧(OSl RS 9 1 s.1 [] s.2.2.1 s.2.1)) (Φ_1,([]:List ByteArray),v1,0) N ⟨h,h1⟩ (sx [0] [0]) (fun n1 ih1 s hm=>?_)
 obtain ⟨Φ_2,s1,u1,s2⟩:=s
 obtain ⟨h,k1⟩:=hm
 dsimp only at h k1 ⊢
 unfold fF at h
 refine atr 6 [1,0] rfl<|lnr ph0_0 rfl<|la rfl<|en ?_
 refine ch h rfl ?_ ?_ <;> intro h
 ·refine atr 8 [1,0] rfl ?_
  obtain ⟨x1,hx1,h⟩:=bs h
  obtain ⟨cs1,F1,-,g1,hb1,hs1,r1⟩:=ph0_0.el (ab hx1).2.2
  obtain ⟨rfl,-⟩:=r1
  refine lia ph0_0 hx1 rfl<|lf Dv rfl rfl rfl<|lhx 0 0 g1 rfl<|arr 2 [] rfl ?_
  obtain ⟨b1,hb_1,h⟩:=bs h
  refine WL.cutN 10 [(30,.bool b1),(1,pQ b_1),(3,u1),(4,iV s2)] ?_ (fun K=>?_)
  rotate_left
  ·refine sp 20 hb_1 rfl (fun hb_1=>?_) fun hb_1=>?_
   ·refine arr 4 [1,0] rfl<|ly rfl rfl ?_
    obtain ⟨x2,hx2,hb_1⟩:=bs hb_1
    obtain ⟨cs2,F2,-,g2,hb2,hs2,r2⟩:=ph0_0.el (ab hx2).2.2
    obtain ⟨rfl,-⟩:=r2
    refine lia ph0_0 hx2 rfl<|ly rfl rfl<|lf yw rfl rfl rfl<|ly rfl rfl<|lhx 1 0 g2 rfl<|ly rfl rfl<|qc hb_1 (qj N · s1 x2.S k1.rsl ·) rfl rfl rfl fun x3 hb_1=>arr 2 [] rfl ?_
    cases hb_1
    exact ku K
   ·refine arr 10 [] rfl ?_
    cases hb_1
    exact ku K
  refine en ?_
  refine ch h rfl ?_ ?_ <;> intro h
  ·refine atr 5 [1,0] rfl ?_
   obtain ⟨x4,hx4,h⟩:=bs h
   obtain ⟨cs3,F3,-,g3,hb3,hs3,r3⟩:=ph0_0.el (ab hx4).2.2
   obtain ⟨rfl,-⟩:=r3
   refine lia ph0_0 hx4 rfl<|lf yw rfl rfl rfl<|lhx 1 0 g3 rfl ?_
   have rc2:RC RS 1 Φ_2 ([[]]:List (List Nat)) [.string x4.S] ([x4.S]:List ByteArray):=RC.cons (c:=[.string x4.S]) (cells:=[]) ⟨rfl,rfl⟩ rfl (RC.nil _ _ _)
   refine le' (aV (vs:=[(0,.string x4.S)]) (C:=#[.string x4.S]) RS.lasts dF lQ rfl rfl rfl rfl (ag Bw (a8 (C':=[.string x4.S]) rfl rfl rfl rfl rfl (ac))) rfl rc2 rfl (by simpa using Kw.nil)) rfl ?_
   rintro v2 Φ_3 D2 ⟨fr2,h2⟩
   replace h2:OSl RS 9 1 Φ_3 [] v2 ([x4.S]:List ByteArray):=by simpa using h2
   replace k1:=k1.f0 fr2
   obtain ⟨x5,hx5,h⟩:=bs h
   refine le' (ee RS.lasts RS.one RS.flat dF Je rfl rfl rfl rfl rfl (js:=[1]) (Rr:=[ob v2]) rfl k1 h2.rsl hx5) rfl ?_
   rintro v3 Φ_4 D3 ⟨⟨ap1,fr3⟩,h3⟩
   refine art 8 [] rfl ?_
   exact lb [0] [0] (ih1 (_,_,_,_) ⟨h,h3⟩)
  refine att 7 [] rfl ?_
  exact lb [0] [0] (ih1 (_,_,_,_) ⟨h,k1⟩)
 refine att 6 [] rfl ?_
 exact rtg [0] hF (ay.one rfl) rfl (by cases h; exact fun w1 hw=>⟨u1,rfl,rfl,k1⟩)
theorem qZ (w0:av Ψ Φ []) (p0:af) (ph0_0:RSl bS 3 Ψ pG0_0 pv0_0 p0.Pats) (ph0_1:RSl bq 11 Ψ pG0_1 pv0_1 p0.Conds) (ph0_2:RSl ep 5 Ψ pG0_2 pv0_2 p0.Acts) {r:(List ByteArray)} (h:iq N p0=some r) :
  Calls prog 101 [.agg [.string p0.Name,iV p0.Sal,pv0_0,pv0_1,pv0_2].toArray].toArray w0.w (be Φ w0.w [] (fun Φ' Fs v=>∃ (sr_0_0:Value),v=sr_0_0∧Fs=[ob sr_0_0]∧OSl RS 9 1 Φ' [] sr_0_0 r)):=by
 refine eN func101 rfl ntmps101 rfl w0 fun hF=>?_
 unfold iq at h
 refine sr<|lbx rfl fun b_1=>arr 4 [] rfl<|le' (sL RS.lasts dF lQ rfl rfl) rfl ?_
 rintro v1 Φ_1 D1 ⟨fr1,h1⟩
 refine art 8 [] rfl ?_
 refine lin (σ:=Hp × (List ByteArray) × Value × Int) (fun s=>[(1,pQ b_1),(3,s.2.2.1),(4,iV s.2.2.2)]) (fun s=>St w0 s.1 [(b_1,.cells #[.string p0.Name,iV p0.Sal,pv0_0,pv0_1,pv0_2] 87 (0,0))] [ob s.2.2.1]) (fun m s=>cR N p0 m s.2.1 s.2.2.2=some r∧(OSl RS 9 1 s.1 [] s.2.2.1 s.2.1)) (Φ_1,([]:List ByteArray),v1,0) N ⟨h,h1⟩ (sx [0] [0]) (fun n1 ih1 s hm=>?_)
 obtain ⟨Φ_2,s1,u1,s2⟩:=s
 obtain ⟨h,k1⟩:=hm
 dsimp only at h k1 ⊢
 unfold cR at h
 refine atr 6 [2,0] rfl<|lnr ph0_0 rfl<|la rfl<|en ?_
 refine ch h rfl ?_ ?_ <;> intro h
 ·refine atr 8 [2,0] rfl ?_
  obtain ⟨x1,hx1,h⟩:=bs h
  obtain ⟨cs1,F1,-,g1,hb1,hs1,r1⟩:=ph0_0.el (ab hx1).2.2
  obtain ⟨v2,G1,rfl,hq1,h2⟩:=r1
  obtain rfl:=hq1.symm
  refine lia ph0_0 hx1 rfl<|lhx 0 3 g1 rfl<|kab h rfl rfl rfl (fun b z q=>xR N b x1 (h2.y z) q) ?_
  rintro x2 h v3 Φ_3 F2 ⟨ap1,fr2,v4,rfl,rfl,h3⟩
  replace k1:=k1.fr fr2 (ap1.q 0 rfl) dN
  refine art 7 [] rfl ?_
  refine lin (σ:=Hp × (List ByteArray) × Value × Int) (fun s=>[(1,pQ b_1),(3,s.2.2.1),(4,iV s2),(5,v3),(6,iV s.2.2.2)]) (fun s=>St w0 s.1 [(b_1,.cells #[.string p0.Name,iV p0.Sal,pv0_0,pv0_1,pv0_2] 87 (0,0))] [ob v3,ob s.2.2.1]) (fun m s=>cZ N p0 s2 (cR N p0 n1) x2 m s.2.1 s.2.2.2=some r∧(OSl RS 9 1 s.1 [] s.2.2.1 s.2.1)∧(OSl RS 9 1 s.1 [] v3 x2)) (Φ_3,s1,u1,0) N ⟨h,k1,h3⟩ (sx [0,0] [0]) (fun n2 ih2 s hm=>?_)
  obtain ⟨Φ_4,s3,u2,s4⟩:=s
  obtain ⟨h,k2,h3⟩:=hm
  dsimp only at h k2 h3 ⊢
  unfold cZ at h
  refine atr 5 [] rfl<|lno h3 rfl<|arr 2 [] rfl ?_
  obtain ⟨b1,hb_1,h⟩:=bs h
  refine WL.cutN 8 [(33,.bool b1),(1,pQ b_1),(3,u2),(4,iV s2),(5,v3),(6,iV s4)] ?_ (fun K=>?_)
  rotate_left
  ·refine sp 25 hb_1 rfl (fun hb_1=>?_) fun hb_1=>?_
   ·refine arr 3 [2,0] rfl<|ly rfl rfl ?_
    obtain ⟨x3,hx3,hb_1⟩:=bs hb_1
    obtain ⟨cs2,F3,-,g2,hb2,hs2,r2⟩:=ph0_0.el (ab hx3).2.2
    obtain ⟨v5,G2,rfl,hq2,h4⟩:=r2
    obtain rfl:=hq2.symm
    refine lia ph0_0 hx3 rfl<|ly rfl rfl<|lf lz rfl rfl rfl<|ly rfl rfl<|lhx 2 0 g2 rfl<|arr 2 [] rfl ?_
    cases hb_1
    exact ku K
   ·refine arr 8 [] rfl ?_
    cases hb_1
    exact ku K
  refine en ?_
  refine ch h rfl ?_ ?_ <;> intro h
  ·refine atr 8 [] rfl ?_
   obtain ⟨x4,hx4,h⟩:=bs h
   obtain ⟨cs3,F4,-,g3,hb3,hs3,r3⟩:=h3.elS (ab hx4).2.2
   obtain ⟨rfl,-⟩:=r3
   refine lio h3 hx4 rfl<|lgx 0 0 g3 rfl<|qc h (qj N · s3 x4 k2.rsl ·) rfl rfl rfl fun x5 h=>la rfl<|en ?_
   refine ch h rfl ?_ ?_ <;> intro h
   ·refine atr 4 [] rfl ?_
    obtain ⟨x6,hx6,h⟩:=bs h
    obtain ⟨cs4,F5,-,g4,hb4,hs4,r4⟩:=h3.elS (ab hx6).2.2
    obtain ⟨rfl,-⟩:=r4
    refine lio h3 hx6 rfl<|lgx 0 0 g4 rfl ?_
    have rc2:RC RS 1 Φ_4 ([[]]:List (List Nat)) [.string x6] ([x6]:List ByteArray):=RC.cons (c:=[.string x6]) (cells:=[]) ⟨rfl,rfl⟩ rfl (RC.nil _ _ _)
    refine le' (aV (vs:=[(0,.string x6)]) (C:=#[.string x6]) RS.lasts dF lQ rfl rfl rfl rfl (ag Bw (a8 (C':=[.string x6]) rfl rfl rfl rfl rfl (ac))) rfl rc2 rfl (by simpa using Kw.nil)) rfl ?_
    rintro v6 Φ_5 D2 ⟨fr3,h5⟩
    replace h5:OSl RS 9 1 Φ_5 [] v6 ([x6]:List ByteArray):=by simpa using h5
    replace k2:=k2.f0 fr3
    replace h3:=h3.f0 fr3
    obtain ⟨x7,hx7,h⟩:=bs h
    refine le' (ee RS.lasts RS.one RS.flat dF Je rfl rfl rfl rfl rfl (js:=[2]) (Rr:=[ob v6,ob v3]) rfl k2 h5.rsl hx7) rfl ?_
    rintro v7 Φ_6 D3 ⟨⟨ap2,fr4⟩,h6⟩
    replace h3:=h3.fr fr4 (ap2.q 1 rfl) dN
    refine art 8 [] rfl ?_
    exact lb [2,0] [0] (ih2 (_,_,_,_) ⟨h,h6,h3⟩)
   refine att 7 [] rfl ?_
   exact lb [0,0] [0] (ih2 (_,_,_,_) ⟨h,k2,h3⟩)
  refine att 7 [] rfl ?_
  exact lb [1] [0] (ih1 (_,_,_,_) ⟨h,k2⟩)
 refine att 6 [] rfl ?_
 exact rtg [0] hF (ay.one rfl) rfl (by cases h; exact fun w1 hw=>⟨u1,rfl,rfl,k1⟩)
theorem qI (w0:av Ψ Φ []) (p0:af) (ph0_0:RSl bS 3 Ψ pG0_0 pv0_0 p0.Pats) (ph0_1:RSl bq 11 Ψ pG0_1 pv0_1 p0.Conds) (ph0_2:RSl ep 5 Ψ pG0_2 pv0_2 p0.Acts) {r:Int} (h:jE N p0=some r) :
  CB w0 prog 105 [.agg [.string p0.Name,iV p0.Sal,pv0_0,pv0_1,pv0_2].toArray] (iV r):=by
 refine eN func105 rfl ntmps105 rfl w0 fun hF=>?_
 unfold jE at h
 refine sr<|lbx rfl fun b_1=>art 12 [] rfl ?_
 refine lin (σ:=Int × Int) (fun s=>[(1,pQ b_1),(3,iV s.1),(4,iV s.2)]) (fun s=>St w0 Φ [(b_1,.cells #[.string p0.Name,iV p0.Sal,pv0_0,pv0_1,pv0_2] 87 (0,0))] []) (fun m s=>dE N p0 m s.1 s.2=some r) (0,0) N h (sx [] [0]) (fun n1 ih1 s hm=>?_)
 obtain ⟨s1,s2⟩:=s
 have h:dE N p0 (n1+1) s1 s2=some r:=hm
 show WT _ _ [(1,pQ b_1),(3,iV s1),(4,iV s2)] (St w0 Φ [(b_1,.cells #[.string p0.Name,iV p0.Sal,pv0_0,pv0_1,pv0_2] 87 (0,0))] [])
 unfold dE at h
 refine atr 6 [2,0] rfl<|lnr ph0_0 rfl<|la rfl<|en ?_
 refine ch h rfl ?_ ?_ <;> intro h
 ·refine atr 8 [2,0] rfl ?_
  obtain ⟨x1,hx1,h⟩:=bs h
  obtain ⟨cs1,F1,-,g1,hb1,hs1,r1⟩:=ph0_0.el (ab hx1).2.2
  obtain ⟨v1,G1,rfl,hq1,h1⟩:=r1
  obtain rfl:=hq1.symm
  refine lia ph0_0 hx1 rfl<|lf lz rfl rfl rfl<|lhx 2 0 g1 rfl<|la rfl<|en ?_
  refine ch h rfl ?_ ?_ <;> intro h
  ·refine att 11 [] rfl ?_
   exact lb [] [0] (ih1 (_,_) h)
  refine att 7 [] rfl ?_
  exact lb [] [0] (ih1 (_,_) h)
 refine att 6 [] rfl ?_
 exact rt hF h
theorem nQ (w0:av Ψ Φ [[pb0]].flatten) (p0:a7) (ph0_0:RSl (RI .u8) 1 Ψ pG0_0 pv0_0 p0.b) (pp0:Φ pb0=some (.cells #[pv0_0,iV p0.i,iV p0.h] 144 (0,0))) {r:aN × a7} (h:jn N p0=some r) :
  Calls prog 126 [pQ pb0].toArray w0.w (be Φ w0.w [[pb0]].flatten (fun Φ' Fs v=>v = .agg [iV r.1.K,iV r.1.N,.string r.1.S].toArray∧Fs=[[pb0]]∧r.2.b=p0.b∧Φ' pb0=some (.cells #[pv0_0,iV r.2.i,iV r.2.h] 144 (0,0)))):=by
 refine eL func126 rfl ntmps126 rfl (L:=[[pb0]]) w0 (fun hF=>?_)
 unfold jn at h
 refine sr<|lnz gF rfl fun b_1=>arr 5 [] rfl<|kcb [0] h rfl rfl rfl rfl (fun b ap z q=>cJ N b p0 2 (ph0_0.y z) pp0 q) ?_
 rintro x1 h v1 Φ_1 F1 ⟨ap1,fr1,rfl,rfl,e1,h1⟩
 refine en ?_
 refine ch h rfl ?_ ?_ <;> intro h
 ·refine sr<|la rfl<|kcb [0] h rfl rfl rfl rfl (fun b ap z q=>az N b (⟨p0.b,x1.2.i,x1.2.h⟩:a7) 3 (ph0_0.y z) h1 q) ?_
  rintro x2 h v2 Φ_2 F2 ⟨ap2,fr2,rfl,rfl,e2,h2⟩
  refine la rfl<|lq (bz (vs:=[(0,iV 1),(1,iV (wz (1+x2.1)))]) (C:=#[iV 1,iV (wz (1+x2.1)),.string (⟨#[]⟩:ByteArray)]) qY gF rfl (a8 (C':=[iV 1,iV 0,.string ⟨#[]⟩]) rfl rfl rfl rfl rfl (a8 (C':=[iV 1,iV (wz (1+x2.1)),.string ⟨#[]⟩]) rfl rfl rfl rfl rfl (ac)))) rfl<|soN 0 mW rfl ⟨rfl,rfl,rfl,trivial⟩ rfl ?_
  refine en ?_
  exact rtg [0] hF (ay.one (bb mV rfl (fun w1 hw=>hw.rgO (i:=0) rfl 0 3 [iV 1,iV (wz (1+x2.1)),.string (⟨#[]⟩:ByteArray)] rfl) rfl)) rfl (by cases h; exact fun w1 hw=>⟨rfl,rfl,rfl,h2⟩)
 refine atr 4 [] rfl ?_
 have rc1:RC RS 1 Φ_1 ([[],[]]:List (List Nat)) [.string (⟨#[97]⟩:ByteArray),.string (⟨#[98]⟩:ByteArray)] ([(⟨#[97]⟩:ByteArray),(⟨#[98]⟩:ByteArray)]:List ByteArray):=RC.cons (c:=[.string (⟨#[97]⟩:ByteArray)]) (cells:=[.string (⟨#[98]⟩:ByteArray)]) ⟨rfl,rfl⟩ rfl (RC.cons (c:=[.string (⟨#[98]⟩:ByteArray)]) (cells:=[]) ⟨rfl,rfl⟩ rfl (RC.nil _ _ _))
 refine le' (aV (vs:=[(0,.string (⟨#[97]⟩:ByteArray)),(1,.string (⟨#[98]⟩:ByteArray))]) (C:=#[.string (⟨#[97]⟩:ByteArray),.string (⟨#[98]⟩:ByteArray)]) RS.lasts dF lQ rfl rfl rfl rfl (ag ux (a8 (C':=[.string (⟨#[97]⟩:ByteArray),.string ⟨#[]⟩]) rfl rfl rfl rfl rfl (a8 (C':=[.string (⟨#[97]⟩:ByteArray),.string (⟨#[98]⟩:ByteArray)]) rfl rfl rfl rfl rfl (ac)))) rfl rc1 rfl (by simpa using Kw.nil)) rfl ?_
 rintro v3 Φ_3 D1 ⟨fr3,h3⟩
 replace h3:OSl RS 9 1 Φ_3 [] v3 ([(⟨#[97]⟩:ByteArray),(⟨#[98]⟩:ByteArray)]:List ByteArray):=by simpa using h3
 replace h1:=fr3 _ _ (by simp) h1
 refine kcb [1] h rfl rfl rfl rfl (fun b ap z q=>bA N b (⟨p0.b,x1.2.i,x1.2.h⟩:a7) ([(⟨#[97]⟩:ByteArray),(⟨#[98]⟩:ByteArray)]:List ByteArray) (ph0_0.y z) h1 (h3.rsl.x (Dj.app (ap.q 0 rfl) dN)) q) ?_
 rintro x3 h v4 Φ_4 F3 ⟨ap3,fr4,rfl,rfl,e3,h4⟩
 refine lq (bz (vs:=[(0,iV 2),(2,.string x3.1)]) (C:=#[iV 2,iV 0,.string x3.1]) qY gF rfl (a8 (C':=[iV 2,iV 0,.string ⟨#[]⟩]) rfl rfl rfl rfl rfl (a8 (C':=[iV 2,iV 0,.string x3.1]) rfl rfl rfl rfl rfl (ac)))) rfl<|soN 0 mW rfl ⟨rfl,rfl,rfl,trivial⟩ rfl ?_
 refine en ?_
 exact rtg [0] hF (ay.one (bb mV rfl (fun w1 hw=>hw.rgO (i:=0) rfl 0 3 [iV 2,iV 0,.string x3.1] rfl) rfl)) rfl (by cases h; exact fun w1 hw=>⟨rfl,rfl,rfl,h4⟩)
theorem pR  (w0:av Ψ Φ []) (p0:aN)  {r:bh} (h:pD N p0=some r) :
  CB w0 prog 207 [.agg [iV p0.K,iV p0.N,.string p0.S].toArray] (.agg [iV r.K,.string r.S,iV r.V.K,iV r.V.N,.string r.V.S].toArray):=by
 refine eN func207 rfl ntmps207 rfl w0 fun hF=>?_
 unfold pD at h
 refine sr<|lbx rfl fun b_1=>lnz gl rfl fun b_2=>arr 4 [35] rfl<|lq (bz (vs:=[(0,iV 2),(2,.agg [iV p0.K,iV p0.N,.string p0.S].toArray)]) (C:=#[iV 2,.string (⟨#[]⟩:ByteArray),iV p0.K,iV p0.N,.string p0.S]) qM gl rfl (a8 (C':=[iV 2,.string ⟨#[]⟩,iV 0,iV 0,.string ⟨#[]⟩]) rfl rfl rfl rfl rfl (a8 (C':=[iV 2,.string ⟨#[]⟩,iV p0.K,iV p0.N,.string p0.S]) rfl rfl rfl rfl rfl (ac)))) rfl<|soN 0 gV rfl ⟨rfl,rfl,rfl,rfl,rfl,trivial⟩ rfl ?_
 refine en ?_
 refine WT.ret hF (ay.one (bb lT rfl (fun w1 hw=>hw.rgO (i:=0) rfl 0 5 [iV 2,.string (⟨#[]⟩:ByteArray),iV p0.K,iV p0.N,.string p0.S] rfl) rfl)) (fun w1 hw=>?_)
 cases h
 exact gg hw
theorem qe  (w0:av Ψ Φ []) (p0:ByteArray)  {r:bh} (h:pe N p0=some r) :
  CB w0 prog 208 [.string p0] (.agg [iV r.K,.string r.S,iV r.V.K,iV r.V.N,.string r.V.S].toArray):=by
 refine eN func208 rfl ntmps208 rfl w0 fun hF=>?_
 unfold pe at h
 refine sr<|lnz gl rfl fun b_1=>arr 4 [] rfl<|lq (bz (vs:=[(0,iV 1),(1,.string p0)]) (C:=#[iV 1,.string p0,iV 0,iV 0,.string (⟨#[]⟩:ByteArray)]) qM gl rfl (a8 (C':=[iV 1,.string ⟨#[]⟩,iV 0,iV 0,.string ⟨#[]⟩]) rfl rfl rfl rfl rfl (a8 (C':=[iV 1,.string p0,iV 0,iV 0,.string ⟨#[]⟩]) rfl rfl rfl rfl rfl (ac)))) rfl<|soN 0 gV rfl ⟨rfl,rfl,rfl,rfl,rfl,trivial⟩ rfl ?_
 refine en ?_
 refine WT.ret hF (ay.one (bb lT rfl (fun w1 hw=>hw.rgO (i:=0) rfl 0 5 [iV 1,.string p0,iV 0,iV 0,.string (⟨#[]⟩:ByteArray)] rfl) rfl)) (fun w1 hw=>?_)
 cases h
 exact gg hw
theorem kI (w0:av Ψ Φ [[pb0]].flatten) (p0:a7) (ph0_0:RSl (RI .u8) 1 Ψ pG0_0 pv0_0 p0.b) (pp0:Φ pb0=some (.cells #[pv0_0,iV p0.i,iV p0.h] 144 (0,0))) {r:bh × a7} (h:jr N p0=some r) :
  Calls prog 205 [pQ pb0].toArray w0.w (be Φ w0.w [[pb0]].flatten (fun Φ' Fs v=>v = .agg [iV r.1.K,.string r.1.S,iV r.1.V.K,iV r.1.V.N,.string r.1.V.S].toArray∧Fs=[[pb0]]∧r.2.b=p0.b∧Φ' pb0=some (.cells #[pv0_0,iV r.2.i,iV r.2.h] 144 (0,0)))):=by
 refine eL func205 rfl ntmps205 rfl (L:=[[pb0]]) w0 (fun hF=>?_)
 unfold jr at h
 refine sr<|lnz gl rfl fun b_1=>arr 5 [] rfl<|kcb [0] h rfl rfl rfl rfl (fun b ap z q=>az N b p0 6 (ph0_0.y z) pp0 q) ?_
 rintro x1 h v1 Φ_1 F1 ⟨ap1,fr1,rfl,rfl,e1,h1⟩
 refine art 7 [] rfl ?_
 refine ch h rfl ?_ ?_ <;> intro h
 ·refine sr<|lq (bz (vs:=[(0,iV 3)]) (C:=#[iV 3,.string (⟨#[]⟩:ByteArray),iV 0,iV 0,.string (⟨#[]⟩:ByteArray)]) qM gl rfl (a8 (C':=[iV 3,.string ⟨#[]⟩,iV 0,iV 0,.string ⟨#[]⟩]) rfl rfl rfl rfl rfl (ac))) rfl<|soN 0 gV rfl ⟨rfl,rfl,rfl,rfl,rfl,trivial⟩ rfl ?_
  refine en ?_
  exact rtg [0] hF (ay.one (bb lT rfl (fun w1 hw=>hw.rgO (i:=0) rfl 0 5 [iV 3,.string (⟨#[]⟩:ByteArray),iV 0,iV 0,.string (⟨#[]⟩:ByteArray)] rfl) rfl)) rfl (by cases h; exact fun w1 hw=>⟨rfl,rfl,rfl,h1⟩)
 refine att 5 [] rfl ?_
 refine ch h rfl ?_ ?_ <;> intro h
 ·refine sr<|la rfl<|kcb [0] h rfl rfl rfl rfl (fun b ap z q=>nQ N b (⟨p0.b,x1.2.i,x1.2.h⟩:a7) (ph0_0.y z) h1 q) ?_
  rintro x2 h v2 Φ_2 F2 ⟨ap2,fr2,rfl,rfl,e2,h2⟩
  refine qc h (pR N · x2.1 ·) rfl rfl rfl fun x3 h=>soN 0 gV rfl ⟨rfl,rfl,rfl,rfl,rfl,trivial⟩ rfl ?_
  refine en ?_
  exact rtg [0] hF (ay.one (bb lT rfl (fun w1 hw=>hw.rgO (i:=0) rfl 0 5 [iV x3.K,.string x3.S,iV x3.V.K,iV x3.V.N,.string x3.V.S] rfl) rfl)) rfl (by cases h; exact fun w1 hw=>⟨rfl,rfl,rfl,h2⟩)
 refine atr 5 [] rfl ?_
 have rc1:RC RS 1 Φ_1 ([[],[],[],[]]:List (List Nat)) [.string (⟨#[88]⟩:ByteArray),.string (⟨#[89]⟩:ByteArray),.string (⟨#[90]⟩:ByteArray),.string (⟨#[88]⟩:ByteArray)] ([(⟨#[88]⟩:ByteArray),(⟨#[89]⟩:ByteArray),(⟨#[90]⟩:ByteArray),(⟨#[88]⟩:ByteArray)]:List ByteArray):=RC.cons (c:=[.string (⟨#[88]⟩:ByteArray)]) (cells:=[.string (⟨#[89]⟩:ByteArray),.string (⟨#[90]⟩:ByteArray),.string (⟨#[88]⟩:ByteArray)]) ⟨rfl,rfl⟩ rfl (RC.cons (c:=[.string (⟨#[89]⟩:ByteArray)]) (cells:=[.string (⟨#[90]⟩:ByteArray),.string (⟨#[88]⟩:ByteArray)]) ⟨rfl,rfl⟩ rfl (RC.cons (c:=[.string (⟨#[90]⟩:ByteArray)]) (cells:=[.string (⟨#[88]⟩:ByteArray)]) ⟨rfl,rfl⟩ rfl (RC.cons (c:=[.string (⟨#[88]⟩:ByteArray)]) (cells:=[]) ⟨rfl,rfl⟩ rfl (RC.nil _ _ _))))
 refine le' (aV (vs:=[(0,.string (⟨#[88]⟩:ByteArray)),(1,.string (⟨#[89]⟩:ByteArray)),(2,.string (⟨#[90]⟩:ByteArray)),(3,.string (⟨#[88]⟩:ByteArray))]) (C:=#[.string (⟨#[88]⟩:ByteArray),.string (⟨#[89]⟩:ByteArray),.string (⟨#[90]⟩:ByteArray),.string (⟨#[88]⟩:ByteArray)]) RS.lasts dF lQ rfl rfl rfl rfl (ag ut (a8 (C':=[.string (⟨#[88]⟩:ByteArray),.string ⟨#[]⟩,.string ⟨#[]⟩,.string ⟨#[]⟩]) rfl rfl rfl rfl rfl (a8 (C':=[.string (⟨#[88]⟩:ByteArray),.string (⟨#[89]⟩:ByteArray),.string ⟨#[]⟩,.string ⟨#[]⟩]) rfl rfl rfl rfl rfl (a8 (C':=[.string (⟨#[88]⟩:ByteArray),.string (⟨#[89]⟩:ByteArray),.string (⟨#[90]⟩:ByteArray),.string ⟨#[]⟩]) rfl rfl rfl rfl rfl (a8 (C':=[.string (⟨#[88]⟩:ByteArray),.string (⟨#[89]⟩:ByteArray),.string (⟨#[90]⟩:ByteArray),.string (⟨#[88]⟩:ByteArray)]) rfl rfl rfl rfl rfl (ac)))))) rfl rc1 rfl (by simpa using Kw.nil)) rfl ?_
 rintro v3 Φ_3 D1 ⟨fr3,h3⟩
 replace h3:OSl RS 9 1 Φ_3 [] v3 ([(⟨#[88]⟩:ByteArray),(⟨#[89]⟩:ByteArray),(⟨#[90]⟩:ByteArray),(⟨#[88]⟩:ByteArray)]:List ByteArray):=by simpa using h3
 replace h1:=fr3 _ _ (by simp) h1
 refine kcb [1] h rfl rfl rfl rfl (fun b ap z q=>bA N b (⟨p0.b,x1.2.i,x1.2.h⟩:a7) ([(⟨#[88]⟩:ByteArray),(⟨#[89]⟩:ByteArray),(⟨#[90]⟩:ByteArray),(⟨#[88]⟩:ByteArray)]:List ByteArray) (ph0_0.y z) h1 (h3.rsl.x (Dj.app (ap.q 0 rfl) dN)) q) ?_
 rintro x4 h v4 Φ_4 F3 ⟨ap3,fr4,rfl,rfl,e3,h4⟩
 refine qc h (qe N · x4.1 ·) rfl rfl rfl fun x5 h=>soN 0 gV rfl ⟨rfl,rfl,rfl,rfl,rfl,trivial⟩ rfl ?_
 refine en ?_
 exact rtg [0] hF (ay.one (bb lT rfl (fun w1 hw=>hw.rgO (i:=0) rfl 0 5 [iV x5.K,.string x5.S,iV x5.V.K,iV x5.V.N,.string x5.V.S] rfl) rfl)) rfl (by cases h; exact fun w1 hw=>⟨rfl,rfl,rfl,h4⟩)
theorem oQ (w0:av Ψ Φ [[pb0]].flatten) (p0:a7) (p1:Bool) (ph0_0:RSl (RI .u8) 1 Ψ pG0_0 pv0_0 p0.b) (pp0:Φ pb0=some (.cells #[pv0_0,iV p0.i,iV p0.h] 144 (0,0))) {r:au × a7} (h:kf N p0 p1=some r) :
  Calls prog 150 [pQ pb0,.bool p1].toArray w0.w (be Φ w0.w [[pb0]].flatten (fun Φ' Fs v=>∃ (sr_0_0:Value),v = .agg [.string r.1.Kind,sr_0_0,.bool r.1.Not].toArray∧Fs=[ob sr_0_0,[pb0]]∧OSl ck 171 5 Φ' [] sr_0_0 r.1.Args∧r.2.b=p0.b∧Φ' pb0=some (.cells #[pv0_0,iV r.2.i,iV r.2.h] 144 (0,0)))):=by
 refine eL func150 rfl ntmps150 rfl (L:=[[pb0]]) w0 (fun hF=>?_)
 unfold kf at h
 refine sr<|lnz iU rfl fun b_1=>arr 4 [] rfl ?_
 have rc1:RC RS 1 Φ ([[],[],[],[]]:List (List Nat)) [.string (⟨#[111,114,100,101,114]⟩:ByteArray),.string (⟨#[112,97,105,100]⟩:ByteArray),.string (⟨#[105,116,101,109]⟩:ByteArray),.string (⟨#[111,114,100,101,114]⟩:ByteArray)] ([(⟨#[111,114,100,101,114]⟩:ByteArray),(⟨#[112,97,105,100]⟩:ByteArray),(⟨#[105,116,101,109]⟩:ByteArray),(⟨#[111,114,100,101,114]⟩:ByteArray)]:List ByteArray):=RC.cons (c:=[.string (⟨#[111,114,100,101,114]⟩:ByteArray)]) (cells:=[.string (⟨#[112,97,105,100]⟩:ByteArray),.string (⟨#[105,116,101,109]⟩:ByteArray),.string (⟨#[111,114,100,101,114]⟩:ByteArray)]) ⟨rfl,rfl⟩ rfl (RC.cons (c:=[.string (⟨#[112,97,105,100]⟩:ByteArray)]) (cells:=[.string (⟨#[105,116,101,109]⟩:ByteArray),.string (⟨#[111,114,100,101,114]⟩:ByteArray)]) ⟨rfl,rfl⟩ rfl (RC.cons (c:=[.string (⟨#[105,116,101,109]⟩:ByteArray)]) (cells:=[.string (⟨#[111,114,100,101,114]⟩:ByteArray)]) ⟨rfl,rfl⟩ rfl (RC.cons (c:=[.string (⟨#[111,114,100,101,114]⟩:ByteArray)]) (cells:=[]) ⟨rfl,rfl⟩ rfl (RC.nil _ _ _))))
 refine le' (aV (vs:=[(0,.string (⟨#[111,114,100,101,114]⟩:ByteArray)),(1,.string (⟨#[112,97,105,100]⟩:ByteArray)),(2,.string (⟨#[105,116,101,109]⟩:ByteArray)),(3,.string (⟨#[111,114,100,101,114]⟩:ByteArray))]) (C:=#[.string (⟨#[111,114,100,101,114]⟩:ByteArray),.string (⟨#[112,97,105,100]⟩:ByteArray),.string (⟨#[105,116,101,109]⟩:ByteArray),.string (⟨#[111,114,100,101,114]⟩:ByteArray)]) RS.lasts dF lQ rfl rfl rfl rfl (ag ut (a8 (C':=[.string (⟨#[111,114,100,101,114]⟩:ByteArray),.string ⟨#[]⟩,.string ⟨#[]⟩,.string ⟨#[]⟩]) rfl rfl rfl rfl rfl (a8 (C':=[.string (⟨#[111,114,100,101,114]⟩:ByteArray),.string (⟨#[112,97,105,100]⟩:ByteArray),.string ⟨#[]⟩,.string ⟨#[]⟩]) rfl rfl rfl rfl rfl (a8 (C':=[.string (⟨#[111,114,100,101,114]⟩:ByteArray),.string (⟨#[112,97,105,100]⟩:ByteArray),.string (⟨#[105,116,101,109]⟩:ByteArray),.string ⟨#[]⟩]) rfl rfl rfl rfl rfl (a8 (C':=[.string (⟨#[111,114,100,101,114]⟩:ByteArray),.string (⟨#[112,97,105,100]⟩:ByteArray),.string (⟨#[105,116,101,109]⟩:ByteArray),.string (⟨#[111,114,100,101,114]⟩:ByteArray)]) rfl rfl rfl rfl rfl (ac)))))) rfl rc1 rfl (by simpa using Kw.nil)) rfl ?_
 rintro v1 Φ_1 D1 ⟨fr1,h1⟩
 replace h1:OSl RS 9 1 Φ_1 [] v1 ([(⟨#[111,114,100,101,114]⟩:ByteArray),(⟨#[112,97,105,100]⟩:ByteArray),(⟨#[105,116,101,109]⟩:ByteArray),(⟨#[111,114,100,101,114]⟩:ByteArray)]:List ByteArray):=by simpa using h1
 replace pp0:=fr1 _ _ (by simp) pp0
 refine kcb [1] h rfl rfl rfl rfl (fun b ap z q=>bA N b p0 ([(⟨#[111,114,100,101,114]⟩:ByteArray),(⟨#[112,97,105,100]⟩:ByteArray),(⟨#[105,116,101,109]⟩:ByteArray),(⟨#[111,114,100,101,114]⟩:ByteArray)]:List ByteArray) (ph0_0.y z) pp0 (h1.rsl.x (Dj.app (ap.q 0 rfl) dN)) q) ?_
 rintro x1 h v2 Φ_2 F1 ⟨ap1,fr2,rfl,rfl,e1,h2⟩
 refine la rfl<|lq (bz (vs:=[(0,.string x1.1),(2,.bool p1)]) (C:=#[.string x1.1,.slice none 0 0,.bool p1]) Jj iU rfl (a8 (C':=[.string x1.1,.slice none 0 0,.bool false]) rfl rfl rfl rfl rfl (a8 (C':=[.string x1.1,.slice none 0 0,.bool p1]) rfl rfl rfl rfl rfl (ac)))) rfl<|lnz iU rfl fun b_2=>soN 0 mP rfl ⟨rfl,rfl,rfl,trivial⟩ rfl ?_
 refine art 12 [0,0] rfl ?_
 refine cut (σ:=Int) (fun s=>[(0,pQ pb0),(4,pQ b_1),(5,pQ b_2),(6,iV s)]) (fun s=>St w0 Φ_2 [(b_2,.cells #[.string x1.1,.slice none 0 0,.bool p1] 201 (0,0)),(b_1,.cells #[.string (⟨#[]⟩:ByteArray),.slice none 0 0,.bool false] 201 (0,0))] [[pb0]]) (fun s=>jO N p0 p1 x1 s=some r) (fun s hm=>?_) (fun K=>?_)
 ·clear h
  revert hm; revert s; intro s1 hm
  have h:jO N p0 p1 x1 s1=some r:=hm
  show WT _ _ [(0,pQ pb0),(4,pQ b_1),(5,pQ b_2),(6,iV s1)] (St w0 Φ_2 [(b_2,.cells #[.string x1.1,.slice none 0 0,.bool p1] 201 (0,0)),(b_1,.cells #[.string (⟨#[]⟩:ByteArray),.slice none 0 0,.bool false] 201 (0,0))] [[pb0]])
  unfold jO at h
  refine att 6 [] rfl<|wtS ?_
  have k1:=OSl.nil ck 171 5 Φ_2
  refine lin (σ:=Hp × (List bh) × Value × Int × Int × Int) (fun s=>[(0,pQ pb0),(4,pQ b_1),(5,pQ b_2),(6,iV s1),(7,iV s.2.2.2.1)]) (fun s=>St w0 s.1 [(b_2,.cells #[.string x1.1,s.2.2.1,.bool p1] 201 (0,0)),(b_1,.cells #[.string (⟨#[]⟩:ByteArray),.slice none 0 0,.bool false] 201 (0,0))] [ob s.2.2.1,[pb0]]) (fun m s=>iL N p0 p1 x1 s1 m s.2.1 s.2.2.2.1 s.2.2.2.2.1 s.2.2.2.2.2=some r∧(OSl ck 171 5 s.1 [] s.2.2.1 s.2.1)∧(s.1 pb0=some (.cells #[pv0_0,iV s.2.2.2.2.1,iV s.2.2.2.2.2] 144 (0,0)))) (Φ_2,([]:List bh),(.slice none 0 0),0,x1.2.i,x1.2.h) N ⟨h,k1,h2⟩ (sx [0,0] [0,0]) (fun n2 ih2 s hm=>?_)
  obtain ⟨Φ_3,s2,u1,s3,s4,s5⟩:=s
  obtain ⟨h,k2,k3⟩:=hm
  dsimp only at h k2 k3 ⊢
  unfold iL at h
  refine att 7 [] rfl ?_
  refine ch h rfl ?_ ?_ <;> intro h
  ·refine att 3 [] rfl<|wm [0,1] [7] rfl<|amm 3 [0,1,1,0,2] [0,1] rfl rfl ?_
   obtain ⟨x2,hx2,h⟩:=bs h
   refine WM.one 3 (by kernel_rfl) (mc rfl (fun _ v Φx D w1 hq hw=>Kn.of Kf.nil (ai2 0 1 rfl rfl) hw) (bo (js:=[1]) (R:=[ob u1]) vH rfl rfl (fun w1 hw ap hl=>kI N (bx hw ap hl) (⟨p0.b,s4,s5⟩:a7) (ph0_0.y (hw.uo ap)) k3  hx2)) rfl ?_)
   rintro v3 Φ_4 F2 ⟨ap2,fr3,rfl,rfl,e2,h3⟩
   replace k2:=k2.fr fr3 (ap2.q 0 rfl) dN
   have rc2:RC ck 5 Φ_4 ([[]]:List (List Nat)) [iV x2.1.K,.string x2.1.S,iV x2.1.V.K,iV x2.1.V.N,.string x2.1.V.S] ([x2.1]:List bh):=RC.cons (c:=[iV x2.1.K,.string x2.1.S,iV x2.1.V.K,iV x2.1.V.N,.string x2.1.V.S]) (cells:=[]) ⟨rfl,rfl⟩ rfl (RC.nil _ _ _)
   refine WM.one 4 (by kernel_rfl) (me rfl (fun _ v Φx D w1 hq hw=>Kn.of Kf.nil (ai2 0 1 rfl rfl) hw) (aV (vs:=[(0,.agg [iV x2.1.K,.string x2.1.S,iV x2.1.V.K,iV x2.1.V.N,.string x2.1.V.S].toArray)]) (C:=#[iV x2.1.K,.string x2.1.S,iV x2.1.V.K,iV x2.1.V.N,.string x2.1.V.S]) ck.lasts nK gl rfl rfl rfl rfl (ag tX (a8 (C':=[iV x2.1.K,.string x2.1.S,iV x2.1.V.K,iV x2.1.V.N,.string x2.1.V.S]) rfl rfl rfl rfl rfl (ac))) rfl rc2 rfl (by simpa using Kw.nil)) rfl ?_)
   rintro v4 Φ_5 D2 ⟨fr4,h4⟩
   replace h4:OSl ck 171 5 Φ_5 [] v4 ([x2.1]:List bh):=by simpa using h4
   replace k2:=k2.f0 fr4
   replace h3:=fr4 _ _ (by simp) h3
   obtain ⟨x3,hx3,h⟩:=bs h
   refine WM.one 5 (by kernel_rfl) (me rfl (fun _ v Φx D w1 hq hw=>Kn.of Kf.nil (ai2 0 1 rfl rfl) hw) (ee ck.lasts ck.one ck.flat nK yM rfl rfl rfl rfl rfl (js:=[2]) (Rr:=[ob v4,[pb0]]) rfl k2 h4.rsl hx3) rfl ?_)
   rintro v5 Φ_6 D3 ⟨⟨ap3,fr5⟩,h5⟩
   replace h3:=fr5 _ _ ((ap3.q 1 rfl) _ (by simp)) h3
   refine amm 1 [6,1] [0,1] rfl rfl ?_
   refine on1 7 (ms1 0 rfl nk zH rfl h5.one ?_)
   refine WM.nil (by kernel_rfl)<|att 6 [] rfl ?_
   exact lb [0,1] [0,0] (ih2 (_,_,_,_,_,_) ⟨h,h5,h3⟩)
  refine atr 4 [3] rfl<|soN 1 mP rfl ⟨rfl,k2.one,rfl,trivial⟩ rfl ?_
  refine en ?_
  exact rtg [0,0] hF (ay.one (bb w7 rfl (fun w1 hw=>hw.rgO (i:=1) rfl 0 3 [.string x1.1,u1,.bool p1] rfl) rfl)) rfl (by cases h; exact fun w1 hw=>⟨u1,rfl,rfl,k2,rfl,k3⟩)
 refine ch h rfl ?_ ?_ <;> intro h
 ·refine att 3 [] rfl ?_
  exact wo [0] [0,0] (K _ h)
 refine WT.skip ?_
 exact wo [0] [0,0] (K _ h)
theorem n9 (w0:av Ψ Φ [[pb0]].flatten) (p0:a7) (ph0_0:RSl (RI .u8) 1 Ψ pG0_0 pv0_0 p0.b) (pp0:Φ pb0=some (.cells #[pv0_0,iV p0.i,iV p0.h] 144 (0,0))) {r:bh × a7} (h:kA N p0=some r) :
  Calls prog 206 [pQ pb0].toArray w0.w (be Φ w0.w [[pb0]].flatten (fun Φ' Fs v=>v = .agg [iV r.1.K,.string r.1.S,iV r.1.V.K,iV r.1.V.N,.string r.1.V.S].toArray∧Fs=[[pb0]]∧r.2.b=p0.b∧Φ' pb0=some (.cells #[pv0_0,iV r.2.i,iV r.2.h] 144 (0,0)))):=by
 refine eL func206 rfl ntmps206 rfl (L:=[[pb0]]) w0 (fun hF=>?_)
 unfold kA at h
 refine sr<|lnz gl rfl fun b_1=>arr 5 [] rfl<|kcb [0] h rfl rfl rfl rfl (fun b ap z q=>cJ N b p0 3 (ph0_0.y z) pp0 q) ?_
 rintro x1 h v1 Φ_1 F1 ⟨ap1,fr1,rfl,rfl,e1,h1⟩
 refine en ?_
 refine ch h rfl ?_ ?_ <;> intro h
 ·refine sr<|la rfl<|kcb [0] h rfl rfl rfl rfl (fun b ap z q=>nQ N b (⟨p0.b,x1.2.i,x1.2.h⟩:a7) (ph0_0.y z) h1 q) ?_
  rintro x2 h v2 Φ_2 F2 ⟨ap2,fr2,rfl,rfl,e2,h2⟩
  refine qc h (pR N · x2.1 ·) rfl rfl rfl fun x3 h=>soN 0 gV rfl ⟨rfl,rfl,rfl,rfl,rfl,trivial⟩ rfl ?_
  refine en ?_
  exact rtg [0] hF (ay.one (bb lT rfl (fun w1 hw=>hw.rgO (i:=0) rfl 0 5 [iV x3.K,.string x3.S,iV x3.V.K,iV x3.V.N,.string x3.V.S] rfl) rfl)) rfl (by cases h; exact fun w1 hw=>⟨rfl,rfl,rfl,h2⟩)
 refine atr 4 [] rfl ?_
 have rc1:RC RS 1 Φ_1 ([[],[]]:List (List Nat)) [.string (⟨#[88]⟩:ByteArray),.string (⟨#[89]⟩:ByteArray)] ([(⟨#[88]⟩:ByteArray),(⟨#[89]⟩:ByteArray)]:List ByteArray):=RC.cons (c:=[.string (⟨#[88]⟩:ByteArray)]) (cells:=[.string (⟨#[89]⟩:ByteArray)]) ⟨rfl,rfl⟩ rfl (RC.cons (c:=[.string (⟨#[89]⟩:ByteArray)]) (cells:=[]) ⟨rfl,rfl⟩ rfl (RC.nil _ _ _))
 refine le' (aV (vs:=[(0,.string (⟨#[88]⟩:ByteArray)),(1,.string (⟨#[89]⟩:ByteArray))]) (C:=#[.string (⟨#[88]⟩:ByteArray),.string (⟨#[89]⟩:ByteArray)]) RS.lasts dF lQ rfl rfl rfl rfl (ag ux (a8 (C':=[.string (⟨#[88]⟩:ByteArray),.string ⟨#[]⟩]) rfl rfl rfl rfl rfl (a8 (C':=[.string (⟨#[88]⟩:ByteArray),.string (⟨#[89]⟩:ByteArray)]) rfl rfl rfl rfl rfl (ac)))) rfl rc1 rfl (by simpa using Kw.nil)) rfl ?_
 rintro v3 Φ_3 D1 ⟨fr3,h3⟩
 replace h3:OSl RS 9 1 Φ_3 [] v3 ([(⟨#[88]⟩:ByteArray),(⟨#[89]⟩:ByteArray)]:List ByteArray):=by simpa using h3
 replace h1:=fr3 _ _ (by simp) h1
 refine kcb [1] h rfl rfl rfl rfl (fun b ap z q=>bA N b (⟨p0.b,x1.2.i,x1.2.h⟩:a7) ([(⟨#[88]⟩:ByteArray),(⟨#[89]⟩:ByteArray)]:List ByteArray) (ph0_0.y z) h1 (h3.rsl.x (Dj.app (ap.q 0 rfl) dN)) q) ?_
 rintro x4 h v4 Φ_4 F3 ⟨ap3,fr4,rfl,rfl,e3,h4⟩
 refine qc h (qe N · x4.1 ·) rfl rfl rfl fun x5 h=>soN 0 gV rfl ⟨rfl,rfl,rfl,rfl,rfl,trivial⟩ rfl ?_
 refine en ?_
 exact rtg [0] hF (ay.one (bb lT rfl (fun w1 hw=>hw.rgO (i:=0) rfl 0 5 [iV x5.K,.string x5.S,iV x5.V.K,iV x5.V.N,.string x5.V.S] rfl) rfl)) rfl (by cases h; exact fun w1 hw=>⟨rfl,rfl,rfl,h4⟩)
theorem sd (w0:av Ψ Φ [[pb0]].flatten) (p0:a7) (ph0_0:RSl (RI .u8) 1 Ψ pG0_0 pv0_0 p0.b) (pp0:Φ pb0=some (.cells #[pv0_0,iV p0.i,iV p0.h] 144 (0,0))) {r:cm × a7} (h:lC N p0=some r) :
  Calls prog 151 [pQ pb0].toArray w0.w (be Φ w0.w [[pb0]].flatten (fun Φ' Fs v=>v = .agg [iV r.1.Op,iV r.1.L.K,.string r.1.L.S,iV r.1.L.V.K,iV r.1.L.V.N,.string r.1.L.V.S,iV r.1.R.K,.string r.1.R.S,iV r.1.R.V.K,iV r.1.R.V.N,.string r.1.R.V.S].toArray∧Fs=[[pb0]]∧r.2.b=p0.b∧Φ' pb0=some (.cells #[pv0_0,iV r.2.i,iV r.2.h] 144 (0,0)))):=by
 refine eL func151 rfl ntmps151 rfl (L:=[[pb0]]) w0 (fun hF=>?_)
 unfold lC at h
 refine sr<|lnz nI rfl fun b_1=>arr 4 [] rfl<|kcb [0] h rfl rfl rfl rfl (fun b ap z q=>az N b p0 3 (ph0_0.y z) pp0 q) ?_
 rintro x1 h v1 Φ_1 F1 ⟨ap1,fr1,rfl,rfl,e1,h1⟩
 refine arr 2 [] rfl<|kcb [0] h rfl rfl rfl rfl (fun b ap z q=>n9 N b (⟨p0.b,x1.2.i,x1.2.h⟩:a7) (ph0_0.y z) h1 q) ?_
 rintro x2 h v2 Φ_2 F2 ⟨ap2,fr2,rfl,rfl,e2,h2⟩
 refine la rfl<|kcb [0] h rfl rfl rfl rfl (fun b ap z q=>n9 N b (⟨p0.b,x2.2.i,x2.2.h⟩:a7) (ph0_0.y z) h2 q) ?_
 rintro x3 h v3 Φ_3 F3 ⟨ap3,fr3,rfl,rfl,e3,h3⟩
 refine lq (bz (vs:=[(0,iV (wz (1+x1.1))),(1,.agg [iV x2.1.K,.string x2.1.S,iV x2.1.V.K,iV x2.1.V.N,.string x2.1.V.S].toArray),(2,.agg [iV x3.1.K,.string x3.1.S,iV x3.1.V.K,iV x3.1.V.N,.string x3.1.V.S].toArray)]) (C:=#[iV (wz (1+x1.1)),iV x2.1.K,.string x2.1.S,iV x2.1.V.K,iV x2.1.V.N,.string x2.1.V.S,iV x3.1.K,.string x3.1.S,iV x3.1.V.K,iV x3.1.V.N,.string x3.1.V.S]) IA nI rfl (a8 (C':=[iV (wz (1+x1.1)),iV 0,.string ⟨#[]⟩,iV 0,iV 0,.string ⟨#[]⟩,iV 0,.string ⟨#[]⟩,iV 0,iV 0,.string ⟨#[]⟩]) rfl rfl rfl rfl rfl (a8 (C':=[iV (wz (1+x1.1)),iV x2.1.K,.string x2.1.S,iV x2.1.V.K,iV x2.1.V.N,.string x2.1.V.S,iV 0,.string ⟨#[]⟩,iV 0,iV 0,.string ⟨#[]⟩]) rfl rfl rfl rfl rfl (a8 (C':=[iV (wz (1+x1.1)),iV x2.1.K,.string x2.1.S,iV x2.1.V.K,iV x2.1.V.N,.string x2.1.V.S,iV x3.1.K,.string x3.1.S,iV x3.1.V.K,iV x3.1.V.N,.string x3.1.V.S]) rfl rfl rfl rfl rfl (ac))))) rfl ?_
 refine soN 0 sQ rfl ⟨rfl,rfl,rfl,rfl,rfl,rfl,rfl,rfl,rfl,rfl,rfl,trivial⟩ rfl ?_
 refine en ?_
 exact rtg [0] hF (ay.one (bb Gf rfl (fun w1 hw=>hw.rgO (i:=0) rfl 0 11 [iV (wz (1+x1.1)),iV x2.1.K,.string x2.1.S,iV x2.1.V.K,iV x2.1.V.N,.string x2.1.V.S,iV x3.1.K,.string x3.1.S,iV x3.1.V.K,iV x3.1.V.N,.string x3.1.V.S] rfl) rfl)) rfl (by cases h; exact fun w1 hw=>⟨rfl,rfl,rfl,h3⟩)
theorem jc (w0:av Ψ Φ []) (p0:bh) (p1:(List ByteArray)) (ph1:RSl RS 1 Ψ pG1 pv1 p1) {r:Bool} (h:gC N p0 p1=some r) :
  CB w0 prog 175 [.agg [iV p0.K,.string p0.S,iV p0.V.K,iV p0.V.N,.string p0.V.S].toArray,pv1] (.bool r):=by
 refine eN func175 rfl ntmps175 rfl w0 fun hF=>?_
 unfold gC at h
 refine sr<|lbx rfl fun b_1=>arr 8 [0,0] rfl ?_
 obtain ⟨b1,hb_1,h⟩:=bs h
 refine WL.cutN 5 [(13,.bool b1),(4,.bool false)] ?_ (fun K=>?_)
 rotate_left
 ·refine sp 8 hb_1 rfl (fun hb_1=>?_) fun hb_1=>?_
  ·refine arr 5 [] rfl ?_
   cases hb_1
   exact ku K
  ·refine arr 3 [1,0] rfl<|ly rfl rfl<|qd hb_1 (qj N · p1 p0.S ph1 ·) rfl rfl rfl fun x1 hb_1=>la rfl ?_
   cases hb_1
   exact ku K
 refine la rfl<|en ?_
 exact rt hF h
theorem mX (w0:av Ψ Φ []) (p0:bh) (p1:(List ByteArray)) (ph1:RSl RS 1 Ψ pG1 pv1 p1) {r:bh} (h:ky N p0 p1=some r) :
  CB w0 prog 152 [.agg [iV p0.K,.string p0.S,iV p0.V.K,iV p0.V.N,.string p0.V.S].toArray,pv1] (.agg [iV r.K,.string r.S,iV r.V.K,iV r.V.N,.string r.V.S].toArray):=by
 refine eN func152 rfl ntmps152 rfl w0 fun hF=>?_
 unfold ky at h
 refine sr<|lbx rfl fun b_1=>lnz gl rfl fun b_2=>arr 6 [37] rfl<|qd h (jc N · p0 p1 ph1 ·) rfl rfl rfl fun x1 h=>en ?_
 refine ch h rfl ?_ ?_ <;> intro h
 ·refine atr 3 [37] rfl<|soN 0 gV rfl ⟨rfl,rfl,rfl,rfl,rfl,trivial⟩ rfl ?_
  refine en ?_
  refine WT.ret hF (ay.one (bb lT rfl (fun w1 hw=>hw.rgO (i:=0) rfl 0 5 [iV p0.K,.string p0.S,iV p0.V.K,iV p0.V.N,.string p0.V.S] rfl) rfl)) (fun w1 hw=>?_)
  cases h
  exact gg hw
 refine atr 5 [] rfl<|lnr ph1 rfl<|la rfl<|en ?_
 refine ch h rfl ?_ ?_ <;> intro h
 ·refine sr<|lq (bz (vs:=[(0,iV 1),(1,iV 1)]) (C:=#[iV 1,iV 1,.string (⟨#[]⟩:ByteArray)]) qY gF rfl (a8 (C':=[iV 1,iV 0,.string ⟨#[]⟩]) rfl rfl rfl rfl rfl (a8 (C':=[iV 1,iV 1,.string ⟨#[]⟩]) rfl rfl rfl rfl rfl (ac)))) rfl<|qc h (pR N · (⟨1,1,(⟨#[]⟩:ByteArray)⟩:aN) ·) rfl rfl rfl fun x2 h=>soN 0 gV rfl ⟨rfl,rfl,rfl,rfl,rfl,trivial⟩ rfl ?_
  refine en ?_
  refine WT.ret hF (ay.one (bb lT rfl (fun w1 hw=>hw.rgO (i:=0) rfl 0 5 [iV x2.K,.string x2.S,iV x2.V.K,iV x2.V.N,.string x2.V.S] rfl) rfl)) (fun w1 hw=>?_)
  cases h
  exact gg hw
 refine atr 4 [] rfl ?_
 obtain ⟨x3,hx3,h⟩:=bs h
 obtain ⟨cs1,F1,-,g1,hb1,hs1,r1⟩:=ph1.el (ab hx3).2.2
 obtain ⟨rfl,-⟩:=r1
 refine lia ph1 hx3 rfl<|lhx 0 0 g1 rfl<|qc h (qe N · x3 ·) rfl rfl rfl fun x4 h=>soN 0 gV rfl ⟨rfl,rfl,rfl,rfl,rfl,trivial⟩ rfl ?_
 refine en ?_
 refine WT.ret hF (ay.one (bb lT rfl (fun w1 hw=>hw.rgO (i:=0) rfl 0 5 [iV x4.K,.string x4.S,iV x4.V.K,iV x4.V.N,.string x4.V.S] rfl) rfl)) (fun w1 hw=>?_)
 cases h
 exact gg hw
theorem xo (w0:av Ψ Φ [[pb0]].flatten) (p0:a7) (ph0_0:RSl (RI .u8) 1 Ψ pG0_0 pv0_0 p0.b) (pp0:Φ pb0=some (.cells #[pv0_0,iV p0.i,iV p0.h] 144 (0,0))) {r:cn × a7} (h:nO N p0=some r) :
  Calls prog 209 [pQ pb0].toArray w0.w (be Φ w0.w [[pb0]].flatten (fun Φ' Fs v=>v = .agg [.string r.1.Op,iV r.1.L.K,.string r.1.L.S,iV r.1.L.V.K,iV r.1.L.V.N,.string r.1.L.V.S,iV r.1.R.K,.string r.1.R.S,iV r.1.R.V.K,iV r.1.R.V.N,.string r.1.R.V.S].toArray∧Fs=[[pb0]]∧r.2.b=p0.b∧Φ' pb0=some (.cells #[pv0_0,iV r.2.i,iV r.2.h] 144 (0,0)))):=by
 refine eL func209 rfl ntmps209 rfl (L:=[[pb0]]) w0 (fun hF=>?_)
 unfold nO at h
 refine sr<|lnz qU rfl fun b_1=>arr 4 [] rfl<|kcb [0] h rfl rfl rfl rfl (fun b ap z q=>n9 N b p0 (ph0_0.y z) pp0 q) ?_
 rintro x1 h v1 Φ_1 F1 ⟨ap1,fr1,rfl,rfl,e1,h1⟩
 refine lq (bz (vs:=[(1,.agg [iV x1.1.K,.string x1.1.S,iV x1.1.V.K,iV x1.1.V.N,.string x1.1.V.S].toArray)]) (C:=#[.string (⟨#[]⟩:ByteArray),iV x1.1.K,.string x1.1.S,iV x1.1.V.K,iV x1.1.V.N,.string x1.1.V.S,iV 0,.string (⟨#[]⟩:ByteArray),iV 0,iV 0,.string (⟨#[]⟩:ByteArray)]) FF qU rfl (a8 (C':=[.string ⟨#[]⟩,iV x1.1.K,.string x1.1.S,iV x1.1.V.K,iV x1.1.V.N,.string x1.1.V.S,iV 0,.string ⟨#[]⟩,iV 0,iV 0,.string ⟨#[]⟩]) rfl rfl rfl rfl rfl (ac))) rfl ?_
 refine lnz qU rfl fun b_2=>soN 0 zz rfl ⟨rfl,rfl,rfl,rfl,rfl,rfl,rfl,rfl,rfl,rfl,rfl,trivial⟩ rfl ?_
 refine arr 5 [] rfl<|kcb [0] h rfl rfl rfl rfl (fun b ap z q=>cJ N b (⟨p0.b,x1.2.i,x1.2.h⟩:a7) 4 (ph0_0.y z) h1 q) ?_
 rintro x2 h v2 Φ_2 F2 ⟨ap2,fr2,rfl,rfl,e2,h2⟩
 refine en ?_
 refine cut (σ:=Hp × Int × Int × ByteArray × Int × ByteArray × Int × Int × ByteArray) (fun s=>[(2,pQ b_1),(3,pQ b_2)]) (fun s=>St w0 s.1 [(b_2,.cells #[.string s.2.2.2.1,iV x1.1.K,.string x1.1.S,iV x1.1.V.K,iV x1.1.V.N,.string x1.1.V.S,iV s.2.2.2.2.1,.string s.2.2.2.2.2.1,iV s.2.2.2.2.2.2.1,iV s.2.2.2.2.2.2.2.1,.string s.2.2.2.2.2.2.2.2] 216 (0,0)),(b_1,.cells #[.string (⟨#[]⟩:ByteArray),iV 0,.string (⟨#[]⟩:ByteArray),iV 0,iV 0,.string (⟨#[]⟩:ByteArray),iV 0,.string (⟨#[]⟩:ByteArray),iV 0,iV 0,.string (⟨#[]⟩:ByteArray)] 216 (0,0))] [[pb0]]) (fun s=>mf N p0 x1 s.2.1 s.2.2.1 s.2.2.2.1 s.2.2.2.2.1 s.2.2.2.2.2.1 s.2.2.2.2.2.2.1 s.2.2.2.2.2.2.2.1 s.2.2.2.2.2.2.2.2=some r∧(s.1 pb0=some (.cells #[pv0_0,iV s.2.1,iV s.2.2.1] 144 (0,0)))) (fun s hm=>?_) (fun K=>?_)
 ·clear h
  obtain ⟨Φ_3,s1,s2,s3,s4,s5,s6,s7,s8⟩:=s
  obtain ⟨h,k1⟩:=hm
  dsimp only at h k1 ⊢
  unfold mf at h
  refine atr 3 [11] rfl<|soN 1 zz rfl ⟨rfl,rfl,rfl,rfl,rfl,rfl,rfl,rfl,rfl,rfl,rfl,trivial⟩ rfl ?_
  refine en ?_
  exact rtg [0] hF (ay.one (bb Jy rfl (fun w1 hw=>hw.rgO (i:=1) rfl 0 11 [.string s3,iV x1.1.K,.string x1.1.S,iV x1.1.V.K,iV x1.1.V.N,.string x1.1.V.S,iV s4,.string s5,iV s6,iV s7,.string s8] rfl) rfl)) rfl (by cases h; exact fun w1 hw=>⟨rfl,rfl,rfl,k1⟩)
 refine ch h rfl ?_ ?_ <;> intro h
 ·refine sr<|la rfl ?_
  have rc1:RC RS 1 Φ_2 ([[],[]]:List (List Nat)) [.string (⟨#[43]⟩:ByteArray),.string (⟨#[45]⟩:ByteArray)] ([(⟨#[43]⟩:ByteArray),(⟨#[45]⟩:ByteArray)]:List ByteArray):=RC.cons (c:=[.string (⟨#[43]⟩:ByteArray)]) (cells:=[.string (⟨#[45]⟩:ByteArray)]) ⟨rfl,rfl⟩ rfl (RC.cons (c:=[.string (⟨#[45]⟩:ByteArray)]) (cells:=[]) ⟨rfl,rfl⟩ rfl (RC.nil _ _ _))
  refine le' (aV (vs:=[(0,.string (⟨#[43]⟩:ByteArray)),(1,.string (⟨#[45]⟩:ByteArray))]) (C:=#[.string (⟨#[43]⟩:ByteArray),.string (⟨#[45]⟩:ByteArray)]) RS.lasts dF lQ rfl rfl rfl rfl (ag ux (a8 (C':=[.string (⟨#[43]⟩:ByteArray),.string ⟨#[]⟩]) rfl rfl rfl rfl rfl (a8 (C':=[.string (⟨#[43]⟩:ByteArray),.string (⟨#[45]⟩:ByteArray)]) rfl rfl rfl rfl rfl (ac)))) rfl rc1 rfl (by simpa using Kw.nil)) rfl ?_
  rintro v3 Φ_4 D1 ⟨fr3,h3⟩
  replace h3:OSl RS 9 1 Φ_4 [] v3 ([(⟨#[43]⟩:ByteArray),(⟨#[45]⟩:ByteArray)]:List ByteArray):=by simpa using h3
  replace h2:=fr3 _ _ (by simp) h2
  refine kcb [1] h rfl rfl rfl rfl (fun b ap z q=>bA N b (⟨p0.b,x2.2.i,x2.2.h⟩:a7) ([(⟨#[43]⟩:ByteArray),(⟨#[45]⟩:ByteArray)]:List ByteArray) (ph0_0.y z) h2 (h3.rsl.x (Dj.app (ap.q 0 rfl) dN)) q) ?_
  rintro x3 h v4 Φ_5 F3 ⟨ap3,fr4,rfl,rfl,e3,h4⟩
  refine lf yI rfl rfl rfl<|so1 0 xQ rfl rfl ?_
  refine arr 3 [] rfl<|kcb [0] h rfl rfl rfl rfl (fun b ap z q=>n9 N b (⟨p0.b,x3.2.i,x3.2.h⟩:a7) (ph0_0.y z) h4 q) ?_
  rintro x4 h v5 Φ_6 F4 ⟨ap4,fr5,rfl,rfl,e4,h5⟩
  refine lf rF rfl rfl rfl<|soN 0 gV rfl ⟨rfl,rfl,rfl,rfl,rfl,trivial⟩ rfl ?_
  refine en ?_
  exact wo [0] [0,0] (K (_,_,_,_,_,_,_,_,_) ⟨h,h5⟩)
 refine WT.skip ?_
 exact wo [0] [0,0] (K (_,_,_,_,_,_,_,_,_) ⟨h,h2⟩)
theorem sF (w0:av Ψ Φ [[pb0]].flatten) (p0:a7) (p1:Int) (ph0_0:RSl (RI .u8) 1 Ψ pG0_0 pv0_0 p0.b) (pp0:Φ pb0=some (.cells #[pv0_0,iV p0.i,iV p0.h] 144 (0,0))) {r:cI × a7} (h:lE N p0 p1=some r) :
  Calls prog 153 [pQ pb0,iV p1].toArray w0.w (be Φ w0.w [[pb0]].flatten (fun Φ' Fs v=>∃ (sr_0_0:Value),v = .agg [iV r.1.Kind,.string r.1.Name,sr_0_0,iV r.1.N,.string r.1.Undo].toArray∧Fs=[ob sr_0_0,[pb0]]∧OSl ce 216 11 Φ' [] sr_0_0 r.1.Args∧r.2.b=p0.b∧Φ' pb0=some (.cells #[pv0_0,iV r.2.i,iV r.2.h] 144 (0,0)))):=by
 refine eL func153 rfl ntmps153 rfl (L:=[[pb0]]) w0 (fun hF=>?_)
 unfold lE at h
 refine sr<|lnz ot rfl fun b_1=>arr 4 [] rfl ?_
 have rc1:RC (RI .i64) 1 Φ ([[],[],[],[],[],[],[],[]]:List (List Nat)) [iV 1,iV 1,iV 2,iV 3,iV 3,iV 4,iV 5,iV 6] ([1,1,2,3,3,4,5,6]:List Int):=RC.cons (c:=[iV 1]) (cells:=[iV 1,iV 2,iV 3,iV 3,iV 4,iV 5,iV 6]) ⟨rfl,rfl⟩ rfl (RC.cons (c:=[iV 1]) (cells:=[iV 2,iV 3,iV 3,iV 4,iV 5,iV 6]) ⟨rfl,rfl⟩ rfl (RC.cons (c:=[iV 2]) (cells:=[iV 3,iV 3,iV 4,iV 5,iV 6]) ⟨rfl,rfl⟩ rfl (RC.cons (c:=[iV 3]) (cells:=[iV 3,iV 4,iV 5,iV 6]) ⟨rfl,rfl⟩ rfl (RC.cons (c:=[iV 3]) (cells:=[iV 4,iV 5,iV 6]) ⟨rfl,rfl⟩ rfl (RC.cons (c:=[iV 4]) (cells:=[iV 5,iV 6]) ⟨rfl,rfl⟩ rfl (RC.cons (c:=[iV 5]) (cells:=[iV 6]) ⟨rfl,rfl⟩ rfl (RC.cons (c:=[iV 6]) (cells:=[]) ⟨rfl,rfl⟩ rfl (RC.nil _ _ _))))))))
 refine le' (aV (vs:=[(0,iV 1),(1,iV 1),(2,iV 2),(3,iV 3),(4,iV 3),(5,iV 4),(6,iV 5),(7,iV 6)]) (C:=#[iV 1,iV 1,iV 2,iV 3,iV 3,iV 4,iV 5,iV 6]) RI.lasts dQ ou rfl rfl rfl rfl (ag Jb (a8 (C':=[iV 1,iV 0,iV 0,iV 0,iV 0,iV 0,iV 0,iV 0]) rfl rfl rfl rfl rfl (a8 (C':=[iV 1,iV 1,iV 0,iV 0,iV 0,iV 0,iV 0,iV 0]) rfl rfl rfl rfl rfl (a8 (C':=[iV 1,iV 1,iV 2,iV 0,iV 0,iV 0,iV 0,iV 0]) rfl rfl rfl rfl rfl (a8 (C':=[iV 1,iV 1,iV 2,iV 3,iV 0,iV 0,iV 0,iV 0]) rfl rfl rfl rfl rfl (a8 (C':=[iV 1,iV 1,iV 2,iV 3,iV 3,iV 0,iV 0,iV 0]) rfl rfl rfl rfl rfl (a8 (C':=[iV 1,iV 1,iV 2,iV 3,iV 3,iV 4,iV 0,iV 0]) rfl rfl rfl rfl rfl (a8 (C':=[iV 1,iV 1,iV 2,iV 3,iV 3,iV 4,iV 5,iV 0]) rfl rfl rfl rfl rfl (a8 (C':=[iV 1,iV 1,iV 2,iV 3,iV 3,iV 4,iV 5,iV 6]) rfl rfl rfl rfl rfl (ac)))))))))) rfl rc1 rfl (by simpa using Kw.nil)) rfl ?_
 rintro v1 Φ_1 D1 ⟨fr1,h1⟩
 replace h1:OSl (RI .i64) 3 1 Φ_1 [] v1 ([1,1,2,3,3,4,5,6]:List Int):=by simpa using h1
 replace pp0:=fr1 _ _ (by simp) pp0
 refine kcb [1] h rfl rfl rfl rfl (fun b ap z q=>gA N b p0 ([1,1,2,3,3,4,5,6]:List Int) (ph0_0.y z) pp0 (h1.rsl.x (Dj.app (ap.q 0 rfl) dN)) q) ?_
 rintro x1 h v2 Φ_2 F1 ⟨ap1,fr2,rfl,rfl,e1,h2⟩
 refine lq (bz (vs:=[(0,iV x1.1)]) (C:=#[iV x1.1,.string (⟨#[]⟩:ByteArray),.slice none 0 0,iV 0,.string (⟨#[]⟩:ByteArray)]) Jx ot rfl (a8 (C':=[iV x1.1,.string ⟨#[]⟩,.slice none 0 0,iV 0,.string ⟨#[]⟩]) rfl rfl rfl rfl rfl (ac))) rfl<|lnz ot rfl fun b_2=>soN 0 qy rfl ⟨rfl,rfl,rfl,rfl,rfl,trivial⟩ rfl ?_
 refine art 13 [0,0] rfl ?_
 refine ch h rfl ?_ ?_ <;> intro h
 ·refine atr 4 [] rfl<|kcb [0] h rfl rfl rfl rfl (fun b ap z q=>az N b (⟨p0.b,x1.2.i,x1.2.h⟩:a7) p1 (ph0_0.y z) h2 q) ?_
  rintro x2 h v3 Φ_3 F2 ⟨ap2,fr3,rfl,rfl,e2,h3⟩
  refine lf rN rfl rfl rfl<|so1 0 tV rfl rfl ?_
  refine arr 4 [5] rfl<|soN 1 qy rfl ⟨rfl,rfl,rfl,rfl,rfl,trivial⟩ rfl ?_
  refine en ?_
  refine WT.ret hF (ay.one (bb xh rfl (fun w1 hw=>hw.rgO (i:=1) rfl 0 5 [iV x1.1,.string (⟨#[]⟩:ByteArray),.slice none 0 0,iV x2.1,.string (⟨#[]⟩:ByteArray)] rfl) rfl)) (fun w1 hw=>?_)
  cases h
  replace hw:=hw.addNil
  refine aI (js:=[0,0]) hw rfl ⟨.slice none 0 0,rfl,rfl,OSl.nil _ _ _ _,rfl,h3⟩
 refine att 6 [] rfl ?_
 refine cut (σ:=Bool) (fun s=>[(0,pQ pb0),(4,pQ b_1),(5,pQ b_2),(21,.bool s)]) (fun s=>St w0 Φ_2 [(b_2,.cells #[iV x1.1,.string (⟨#[]⟩:ByteArray),.slice none 0 0,iV 0,.string (⟨#[]⟩:ByteArray)] 213 (0,0)),(b_1,.cells #[iV 0,.string (⟨#[]⟩:ByteArray),.slice none 0 0,iV 0,.string (⟨#[]⟩:ByteArray)] 213 (0,0))] [[pb0]]) (fun s=>dy N p0 x1 s=some r) (fun s hm=>?_) (fun K=>?_)
 ·clear h
  revert hm; revert s; intro s1 hm
  have h:dy N p0 x1 s1=some r:=hm
  show WT _ _ [(0,pQ pb0),(4,pQ b_1),(5,pQ b_2),(21,.bool s1)] (St w0 Φ_2 [(b_2,.cells #[iV x1.1,.string (⟨#[]⟩:ByteArray),.slice none 0 0,iV 0,.string (⟨#[]⟩:ByteArray)] 213 (0,0)),(b_1,.cells #[iV 0,.string (⟨#[]⟩:ByteArray),.slice none 0 0,iV 0,.string (⟨#[]⟩:ByteArray)] 213 (0,0))] [[pb0]])
  unfold dy at h
  refine ch h rfl ?_ ?_ <;> intro h
  ·refine atr 3 [5] rfl<|soN 1 qy rfl ⟨rfl,rfl,rfl,rfl,rfl,trivial⟩ rfl ?_
   refine en ?_
   refine WT.ret hF (ay.one (bb xh rfl (fun w1 hw=>hw.rgO (i:=1) rfl 0 5 [iV x1.1,.string (⟨#[]⟩:ByteArray),.slice none 0 0,iV 0,.string (⟨#[]⟩:ByteArray)] rfl) rfl)) (fun w1 hw=>?_)
   cases h
   replace hw:=hw.addNil
   refine aI (js:=[0,0]) hw rfl ⟨.slice none 0 0,rfl,rfl,OSl.nil _ _ _ _,rfl,h2⟩
  refine atr 5 [] rfl ?_
  have rc2:RC RS 1 Φ_2 ([[],[],[],[],[]]:List (List Nat)) [.string (⟨#[111,114,100,101,114]⟩:ByteArray),.string (⟨#[112,97,105,100]⟩:ByteArray),.string (⟨#[105,116,101,109]⟩:ByteArray),.string (⟨#[115,104,105,112]⟩:ByteArray),.string (⟨#[99,104,97,114,103,101]⟩:ByteArray)] ([(⟨#[111,114,100,101,114]⟩:ByteArray),(⟨#[112,97,105,100]⟩:ByteArray),(⟨#[105,116,101,109]⟩:ByteArray),(⟨#[115,104,105,112]⟩:ByteArray),(⟨#[99,104,97,114,103,101]⟩:ByteArray)]:List ByteArray):=RC.cons (c:=[.string (⟨#[111,114,100,101,114]⟩:ByteArray)]) (cells:=[.string (⟨#[112,97,105,100]⟩:ByteArray),.string (⟨#[105,116,101,109]⟩:ByteArray),.string (⟨#[115,104,105,112]⟩:ByteArray),.string (⟨#[99,104,97,114,103,101]⟩:ByteArray)]) ⟨rfl,rfl⟩ rfl (RC.cons (c:=[.string (⟨#[112,97,105,100]⟩:ByteArray)]) (cells:=[.string (⟨#[105,116,101,109]⟩:ByteArray),.string (⟨#[115,104,105,112]⟩:ByteArray),.string (⟨#[99,104,97,114,103,101]⟩:ByteArray)]) ⟨rfl,rfl⟩ rfl (RC.cons (c:=[.string (⟨#[105,116,101,109]⟩:ByteArray)]) (cells:=[.string (⟨#[115,104,105,112]⟩:ByteArray),.string (⟨#[99,104,97,114,103,101]⟩:ByteArray)]) ⟨rfl,rfl⟩ rfl (RC.cons (c:=[.string (⟨#[115,104,105,112]⟩:ByteArray)]) (cells:=[.string (⟨#[99,104,97,114,103,101]⟩:ByteArray)]) ⟨rfl,rfl⟩ rfl (RC.cons (c:=[.string (⟨#[99,104,97,114,103,101]⟩:ByteArray)]) (cells:=[]) ⟨rfl,rfl⟩ rfl (RC.nil _ _ _)))))
  refine le' (aV (vs:=[(0,.string (⟨#[111,114,100,101,114]⟩:ByteArray)),(1,.string (⟨#[112,97,105,100]⟩:ByteArray)),(2,.string (⟨#[105,116,101,109]⟩:ByteArray)),(3,.string (⟨#[115,104,105,112]⟩:ByteArray)),(4,.string (⟨#[99,104,97,114,103,101]⟩:ByteArray))]) (C:=#[.string (⟨#[111,114,100,101,114]⟩:ByteArray),.string (⟨#[112,97,105,100]⟩:ByteArray),.string (⟨#[105,116,101,109]⟩:ByteArray),.string (⟨#[115,104,105,112]⟩:ByteArray),.string (⟨#[99,104,97,114,103,101]⟩:ByteArray)]) RS.lasts dF lQ rfl rfl rfl rfl (ag FG (a8 (C':=[.string (⟨#[111,114,100,101,114]⟩:ByteArray),.string ⟨#[]⟩,.string ⟨#[]⟩,.string ⟨#[]⟩,.string ⟨#[]⟩]) rfl rfl rfl rfl rfl (a8 (C':=[.string (⟨#[111,114,100,101,114]⟩:ByteArray),.string (⟨#[112,97,105,100]⟩:ByteArray),.string ⟨#[]⟩,.string ⟨#[]⟩,.string ⟨#[]⟩]) rfl rfl rfl rfl rfl (a8 (C':=[.string (⟨#[111,114,100,101,114]⟩:ByteArray),.string (⟨#[112,97,105,100]⟩:ByteArray),.string (⟨#[105,116,101,109]⟩:ByteArray),.string ⟨#[]⟩,.string ⟨#[]⟩]) rfl rfl rfl rfl rfl (a8 (C':=[.string (⟨#[111,114,100,101,114]⟩:ByteArray),.string (⟨#[112,97,105,100]⟩:ByteArray),.string (⟨#[105,116,101,109]⟩:ByteArray),.string (⟨#[115,104,105,112]⟩:ByteArray),.string ⟨#[]⟩]) rfl rfl rfl rfl rfl (a8 (C':=[.string (⟨#[111,114,100,101,114]⟩:ByteArray),.string (⟨#[112,97,105,100]⟩:ByteArray),.string (⟨#[105,116,101,109]⟩:ByteArray),.string (⟨#[115,104,105,112]⟩:ByteArray),.string (⟨#[99,104,97,114,103,101]⟩:ByteArray)]) rfl rfl rfl rfl rfl (ac))))))) rfl rc2 rfl (by simpa using Kw.nil)) rfl ?_
  rintro v4 Φ_4 D2 ⟨fr4,h4⟩
  replace h4:OSl RS 9 1 Φ_4 [] v4 ([(⟨#[111,114,100,101,114]⟩:ByteArray),(⟨#[112,97,105,100]⟩:ByteArray),(⟨#[105,116,101,109]⟩:ByteArray),(⟨#[115,104,105,112]⟩:ByteArray),(⟨#[99,104,97,114,103,101]⟩:ByteArray)]:List ByteArray):=by simpa using h4
  replace h2:=fr4 _ _ (by simp) h2
  refine kcb [1] h rfl rfl rfl rfl (fun b ap z q=>bA N b (⟨p0.b,x1.2.i,x1.2.h⟩:a7) ([(⟨#[111,114,100,101,114]⟩:ByteArray),(⟨#[112,97,105,100]⟩:ByteArray),(⟨#[105,116,101,109]⟩:ByteArray),(⟨#[115,104,105,112]⟩:ByteArray),(⟨#[99,104,97,114,103,101]⟩:ByteArray)]:List ByteArray) (ph0_0.y z) h2 (h4.rsl.x (Dj.app (ap.q 0 rfl) dN)) q) ?_
  rintro x3 h v5 Φ_5 F3 ⟨ap3,fr5,rfl,rfl,e3,h5⟩
  refine lf yy rfl rfl rfl<|so1 0 xQ rfl rfl ?_
  refine art 12 [1,0] rfl ?_
  refine cut (σ:=Int) (fun s=>[(0,pQ pb0),(4,pQ b_1),(5,pQ b_2),(6,iV s)]) (fun s=>St w0 Φ_5 [(b_2,.cells #[iV x1.1,.string x3.1,.slice none 0 0,iV 0,.string (⟨#[]⟩:ByteArray)] 213 (0,0)),(b_1,.cells #[iV 0,.string (⟨#[]⟩:ByteArray),.slice none 0 0,iV 0,.string (⟨#[]⟩:ByteArray)] 213 (0,0))] [[pb0]]) (fun s=>iN N p0 x1 x3 s=some r) (fun s hm=>?_) (fun K=>?_)
  ·clear h
   revert hm; revert s; intro s2 hm
   have h:iN N p0 x1 x3 s2=some r:=hm
   show WT _ _ [(0,pQ pb0),(4,pQ b_1),(5,pQ b_2),(6,iV s2)] (St w0 Φ_5 [(b_2,.cells #[iV x1.1,.string x3.1,.slice none 0 0,iV 0,.string (⟨#[]⟩:ByteArray)] 213 (0,0)),(b_1,.cells #[iV 0,.string (⟨#[]⟩:ByteArray),.slice none 0 0,iV 0,.string (⟨#[]⟩:ByteArray)] 213 (0,0))] [[pb0]])
   unfold iN at h
   refine att 6 [] rfl<|wtS ?_
   have k1:=OSl.nil ce 216 11 Φ_5
   refine lin (σ:=Hp × (List cn) × Value × Int × Int × Int) (fun s=>[(0,pQ pb0),(4,pQ b_1),(5,pQ b_2),(6,iV s2),(7,iV s.2.2.2.1)]) (fun s=>St w0 s.1 [(b_2,.cells #[iV x1.1,.string x3.1,s.2.2.1,iV 0,.string (⟨#[]⟩:ByteArray)] 213 (0,0)),(b_1,.cells #[iV 0,.string (⟨#[]⟩:ByteArray),.slice none 0 0,iV 0,.string (⟨#[]⟩:ByteArray)] 213 (0,0))] [ob s.2.2.1,[pb0]]) (fun m s=>iK N p0 x1 x3 s2 m s.2.1 s.2.2.2.1 s.2.2.2.2.1 s.2.2.2.2.2=some r∧(OSl ce 216 11 s.1 [] s.2.2.1 s.2.1)∧(s.1 pb0=some (.cells #[pv0_0,iV s.2.2.2.2.1,iV s.2.2.2.2.2] 144 (0,0)))) (Φ_5,([]:List cn),(.slice none 0 0),0,x3.2.i,x3.2.h) N ⟨h,k1,h5⟩ (sx [0,0] [0,0]) (fun n3 ih3 s hm=>?_)
   obtain ⟨Φ_6,s3,u1,s4,s5,s6⟩:=s
   obtain ⟨h,k2,k3⟩:=hm
   dsimp only at h k2 k3 ⊢
   unfold iK at h
   refine att 7 [] rfl ?_
   refine ch h rfl ?_ ?_ <;> intro h
   ·refine att 3 [] rfl<|wm [0,1] [7] rfl<|amm 3 [0,2,1,0,2] [0,1] rfl rfl ?_
    obtain ⟨x4,hx4,h⟩:=bs h
    refine WM.one 3 (by kernel_rfl) (mc rfl (fun _ v Φx D w1 hq hw=>Kn.of Kf.nil (ai2 0 1 rfl rfl) hw) (bo (js:=[1]) (R:=[ob u1]) Gy rfl rfl (fun w1 hw ap hl=>xo N (bx hw ap hl) (⟨p0.b,s5,s6⟩:a7) (ph0_0.y (hw.uo ap)) k3  hx4)) rfl ?_)
    rintro v6 Φ_7 F4 ⟨ap4,fr6,rfl,rfl,e4,h6⟩
    replace k2:=k2.fr fr6 (ap4.q 0 rfl) dN
    have rc3:RC ce 11 Φ_7 ([[]]:List (List Nat)) [.string x4.1.Op,iV x4.1.L.K,.string x4.1.L.S,iV x4.1.L.V.K,iV x4.1.L.V.N,.string x4.1.L.V.S,iV x4.1.R.K,.string x4.1.R.S,iV x4.1.R.V.K,iV x4.1.R.V.N,.string x4.1.R.V.S] ([x4.1]:List cn):=RC.cons (c:=[.string x4.1.Op,iV x4.1.L.K,.string x4.1.L.S,iV x4.1.L.V.K,iV x4.1.L.V.N,.string x4.1.L.V.S,iV x4.1.R.K,.string x4.1.R.S,iV x4.1.R.V.K,iV x4.1.R.V.N,.string x4.1.R.V.S]) (cells:=[]) ⟨rfl,rfl⟩ rfl (RC.nil _ _ _)
    refine WM.one 4 (by kernel_rfl) (me rfl (fun _ v Φx D w1 hq hw=>Kn.of Kf.nil (ai2 0 1 rfl rfl) hw) (aV (vs:=[(0,.agg [.string x4.1.Op,iV x4.1.L.K,.string x4.1.L.S,iV x4.1.L.V.K,iV x4.1.L.V.N,.string x4.1.L.V.S,iV x4.1.R.K,.string x4.1.R.S,iV x4.1.R.V.K,iV x4.1.R.V.N,.string x4.1.R.V.S].toArray)]) (C:=#[.string x4.1.Op,iV x4.1.L.K,.string x4.1.L.S,iV x4.1.L.V.K,iV x4.1.L.V.N,.string x4.1.L.V.S,iV x4.1.R.K,.string x4.1.R.S,iV x4.1.R.V.K,iV x4.1.R.V.N,.string x4.1.R.V.S]) ce.lasts rc qU rfl rfl rfl rfl (ag zX (a8 (C':=[.string x4.1.Op,iV x4.1.L.K,.string x4.1.L.S,iV x4.1.L.V.K,iV x4.1.L.V.N,.string x4.1.L.V.S,iV x4.1.R.K,.string x4.1.R.S,iV x4.1.R.V.K,iV x4.1.R.V.N,.string x4.1.R.V.S]) rfl rfl rfl rfl rfl (ac))) rfl rc3 rfl (by simpa using Kw.nil)) rfl ?_)
    rintro v7 Φ_8 D3 ⟨fr7,h7⟩
    replace h7:OSl ce 216 11 Φ_8 [] v7 ([x4.1]:List cn):=by simpa using h7
    replace k2:=k2.f0 fr7
    replace h6:=fr7 _ _ (by simp) h6
    obtain ⟨x5,hx5,h⟩:=bs h
    refine WM.one 5 (by kernel_rfl) (me rfl (fun _ v Φx D w1 hq hw=>Kn.of Kf.nil (ai2 0 1 rfl rfl) hw) (ee ce.lasts ce.one ce.flat rc Eq rfl rfl rfl rfl rfl (js:=[2]) (Rr:=[ob v7,[pb0]]) rfl k2 h7.rsl hx5) rfl ?_)
    rintro v8 Φ_9 D4 ⟨⟨ap5,fr8⟩,h8⟩
    replace h6:=fr8 _ _ ((ap5.q 1 rfl) _ (by simp)) h6
    refine amm 1 [6,2] [0,1] rfl rfl ?_
    refine on1 7 (ms1 0 rfl nk EL rfl h8.one ?_)
    refine WM.nil (by kernel_rfl)<|att 6 [] rfl ?_
    exact lb [0,1] [0,0] (ih3 (_,_,_,_,_,_) ⟨h,h8,h6⟩)
   refine att 8 [0,0] rfl ?_
   refine cut (σ:=Hp × Int × Int × Int) (fun s=>[(0,pQ pb0),(4,pQ b_1),(5,pQ b_2)]) (fun s=>St w0 s.1 [(b_2,.cells #[iV x1.1,.string x3.1,u1,iV s.2.2.2,.string (⟨#[]⟩:ByteArray)] 213 (0,0)),(b_1,.cells #[iV 0,.string (⟨#[]⟩:ByteArray),.slice none 0 0,iV 0,.string (⟨#[]⟩:ByteArray)] 213 (0,0))] [ob u1,[pb0]]) (fun s=>iP N p0 x1 x3 s3 s.2.1 s.2.2.1 s.2.2.2=some r∧(OSl ce 216 11 s.1 [] u1 s3)∧(s.1 pb0=some (.cells #[pv0_0,iV s.2.1,iV s.2.2.1] 144 (0,0)))) (fun s hm=>?_) (fun K=>?_)
   ·clear h
    obtain ⟨Φ_10,s7,s8,s9⟩:=s
    obtain ⟨h,k2,k4⟩:=hm
    dsimp only at h k2 k4 ⊢
    unfold iP at h
    refine atr 7 [0,0] rfl ?_
    refine WL.cutS 3 (σ:=Hp × Bool × Int × Int) (fun s=>[(0,pQ pb0),(4,pQ b_1),(5,pQ b_2),(57,.bool s.2.1)]) (fun s=>St w0 s.1 [(b_2,.cells #[iV x1.1,.string x3.1,u1,iV s9,.string (⟨#[]⟩:ByteArray)] 213 (0,0)),(b_1,.cells #[iV 0,.string (⟨#[]⟩:ByteArray),.slice none 0 0,iV 0,.string (⟨#[]⟩:ByteArray)] 213 (0,0))] [ob u1,[pb0]]) (fun s=>gS N p0 x1 x3 s3 s9 s.2.1 s.2.2.1 s.2.2.2=some r∧(OSl ce 216 11 s.1 [] u1 s3)∧(s.1 pb0=some (.cells #[pv0_0,iV s.2.2.1,iV s.2.2.2] 144 (0,0)))) (fun s hm=>?_) (fun K=>?_)
    ·clear h
     obtain ⟨Φ_11,s10,s11,s12⟩:=s
     obtain ⟨h,k2,k5⟩:=hm
     replace h:gS N p0 x1 x3 s3 s9 s10 s11 s12=some r:=h
     replace k2:OSl ce 216 11 Φ_11 [] u1 s3:=k2
     replace k5:Φ_11 pb0=some (.cells #[pv0_0,iV s11,iV s12] 144 (0,0)):=k5
     show WL _ _ _ _ [(0,pQ pb0),(4,pQ b_1),(5,pQ b_2),(57,.bool s10)] (St w0 Φ_11 [(b_2,.cells #[iV x1.1,.string x3.1,u1,iV s9,.string (⟨#[]⟩:ByteArray)] 213 (0,0)),(b_1,.cells #[iV 0,.string (⟨#[]⟩:ByteArray),.slice none 0 0,iV 0,.string (⟨#[]⟩:ByteArray)] 213 (0,0))] [ob u1,[pb0]])
     unfold gS at h
     refine en ?_
     refine cut (σ:=Hp × Int × Int × ByteArray) (fun s=>[(4,pQ b_1),(5,pQ b_2)]) (fun s=>St w0 s.1 [(b_2,.cells #[iV x1.1,.string x3.1,u1,iV s9,.string s.2.2.2] 213 (0,0)),(b_1,.cells #[iV 0,.string (⟨#[]⟩:ByteArray),.slice none 0 0,iV 0,.string (⟨#[]⟩:ByteArray)] 213 (0,0))] [ob u1,[pb0]]) (fun s=>m9 N p0 x1 x3 s3 s9 s.2.1 s.2.2.1 s.2.2.2=some r∧(OSl ce 216 11 s.1 [] u1 s3)∧(s.1 pb0=some (.cells #[pv0_0,iV s.2.1,iV s.2.2.1] 144 (0,0)))) (fun s hm=>?_) (fun K=>?_)
     ·clear h
      obtain ⟨Φ_12,s13,s14,s15⟩:=s
      obtain ⟨h,k2,k6⟩:=hm
      dsimp only at h k2 k6 ⊢
      unfold m9 at h
      refine atr 3 [5] rfl<|soN 1 qy rfl ⟨rfl,rfl,k2.one,rfl,rfl,trivial⟩ rfl ?_
      refine en ?_
      exact rtg [0,0] hF (ay.one (bb xh rfl (fun w1 hw=>hw.rgO (i:=1) rfl 0 5 [iV x1.1,.string x3.1,u1,iV s9,.string s15] rfl) rfl)) rfl (by cases h; exact fun w1 hw=>⟨u1,rfl,rfl,k2,rfl,k6⟩)
     refine ch h rfl ?_ ?_ <;> intro h
     ·refine atr 2 [] rfl ?_
      have rc4:RC RS 1 Φ_11 ([[],[]]:List (List Nat)) [.string (⟨#[114,101,102,117,110,100]⟩:ByteArray),.string (⟨#[99,97,110,99,101,108]⟩:ByteArray)] ([(⟨#[114,101,102,117,110,100]⟩:ByteArray),(⟨#[99,97,110,99,101,108]⟩:ByteArray)]:List ByteArray):=RC.cons (c:=[.string (⟨#[114,101,102,117,110,100]⟩:ByteArray)]) (cells:=[.string (⟨#[99,97,110,99,101,108]⟩:ByteArray)]) ⟨rfl,rfl⟩ rfl (RC.cons (c:=[.string (⟨#[99,97,110,99,101,108]⟩:ByteArray)]) (cells:=[]) ⟨rfl,rfl⟩ rfl (RC.nil _ _ _))
      refine le' (aV (vs:=[(0,.string (⟨#[114,101,102,117,110,100]⟩:ByteArray)),(1,.string (⟨#[99,97,110,99,101,108]⟩:ByteArray))]) (C:=#[.string (⟨#[114,101,102,117,110,100]⟩:ByteArray),.string (⟨#[99,97,110,99,101,108]⟩:ByteArray)]) RS.lasts dF lQ rfl rfl rfl rfl (ag ux (a8 (C':=[.string (⟨#[114,101,102,117,110,100]⟩:ByteArray),.string ⟨#[]⟩]) rfl rfl rfl rfl rfl (a8 (C':=[.string (⟨#[114,101,102,117,110,100]⟩:ByteArray),.string (⟨#[99,97,110,99,101,108]⟩:ByteArray)]) rfl rfl rfl rfl rfl (ac)))) rfl rc4 rfl (by simpa using Kw.nil)) rfl ?_
      rintro v9 Φ_13 D5 ⟨fr9,h9⟩
      replace h9:OSl RS 9 1 Φ_13 [] v9 ([(⟨#[114,101,102,117,110,100]⟩:ByteArray),(⟨#[99,97,110,99,101,108]⟩:ByteArray)]:List ByteArray):=by simpa using h9
      replace k2:=k2.f0 fr9
      replace k5:=fr9 _ _ (by simp) k5
      refine kcb [2] h rfl rfl rfl rfl (fun b ap z q=>bA N b (⟨p0.b,s11,s12⟩:a7) ([(⟨#[114,101,102,117,110,100]⟩:ByteArray),(⟨#[99,97,110,99,101,108]⟩:ByteArray)]:List ByteArray) (ph0_0.y z) k5 (h9.rsl.x (Dj.app (ap.q 0 rfl) dN)) q) ?_
      rintro x6 h v10 Φ_14 F5 ⟨ap6,fr10,rfl,rfl,e5,h10⟩
      replace k2:=k2.fr fr10 (ap6.q 1 rfl) dN
      refine lf y8 rfl rfl rfl<|so1 0 xQ rfl rfl ?_
      refine en ?_
      exact wo [2,0] [0,0] (K (_,_,_,_) ⟨h,k2,h10⟩)
     refine WT.skip ?_
     exact wo [0,0] [0,0] (K (_,_,_,_) ⟨h,k2,k5⟩)
    refine sp 54 h rfl (fun h=>?_) fun h=>?_
    ·refine ly rfl rfl<|la rfl<|ly rfl rfl<|kcb [1] h rfl rfl rfl rfl (fun b ap z q=>cJ N b (⟨p0.b,s7,s8⟩:a7) 2 (ph0_0.y z) k4 q) ?_
     rintro x7 h v11 Φ_15 F6 ⟨ap7,fr11,rfl,rfl,e6,h11⟩
     replace k2:=k2.fr fr11 (ap7.q 0 rfl) dN
     refine la rfl<|WL.mono (l':=[(0,pQ pb0),(4,pQ b_1),(5,pQ b_2),(57,.bool x7.1)]) (S':=St w0 Φ_15 [(b_2,.cells #[iV x1.1,.string x3.1,u1,iV s9,.string (⟨#[]⟩:ByteArray)] 213 (0,0)),(b_1,.cells #[iV 0,.string (⟨#[]⟩:ByteArray),.slice none 0 0,iV 0,.string (⟨#[]⟩:ByteArray)] 213 (0,0))] [ob u1,[pb0]]) (by exact ⟨rfl,rfl,rfl,rfl,trivial⟩) (sx [1,0] [0,0]) ?_
     exact K (Φ_15,x7.1,x7.2.i,x7.2.h) ⟨h,k2,h11⟩
    refine arr 3 [] rfl<|WL.mono (l':=[(0,pQ pb0),(4,pQ b_1),(5,pQ b_2),(57,.bool false)]) (S':=St w0 Φ_10 [(b_2,.cells #[iV x1.1,.string x3.1,u1,iV s9,.string (⟨#[]⟩:ByteArray)] 213 (0,0)),(b_1,.cells #[iV 0,.string (⟨#[]⟩:ByteArray),.slice none 0 0,iV 0,.string (⟨#[]⟩:ByteArray)] 213 (0,0))] [ob u1,[pb0]]) (by exact ⟨rfl,rfl,rfl,rfl,trivial⟩) (sx [0,0] [0,0]) ?_
    exact K (Φ_10,false,s7,s8) ⟨h,k2,k4⟩
   refine ch h rfl ?_ ?_ <;> intro h
   ·refine atr 2 [] rfl ?_
    have rc5:RC (RI .i64) 1 Φ_6 ([[],[],[],[]]:List (List Nat)) [iV 0,iV 1,iV 5,iV 100000] ([0,1,5,100000]:List Int):=RC.cons (c:=[iV 0]) (cells:=[iV 1,iV 5,iV 100000]) ⟨rfl,rfl⟩ rfl (RC.cons (c:=[iV 1]) (cells:=[iV 5,iV 100000]) ⟨rfl,rfl⟩ rfl (RC.cons (c:=[iV 5]) (cells:=[iV 100000]) ⟨rfl,rfl⟩ rfl (RC.cons (c:=[iV 100000]) (cells:=[]) ⟨rfl,rfl⟩ rfl (RC.nil _ _ _))))
    refine le' (aV (vs:=[(0,iV 0),(1,iV 1),(2,iV 5),(3,iV 100000)]) (C:=#[iV 0,iV 1,iV 5,iV 100000]) RI.lasts dQ ou rfl rfl rfl rfl (ag Bu (a8 (C':=[iV 0,iV 0,iV 0,iV 0]) rfl rfl rfl rfl rfl (a8 (C':=[iV 0,iV 1,iV 0,iV 0]) rfl rfl rfl rfl rfl (a8 (C':=[iV 0,iV 1,iV 5,iV 0]) rfl rfl rfl rfl rfl (a8 (C':=[iV 0,iV 1,iV 5,iV 100000]) rfl rfl rfl rfl rfl (ac)))))) rfl rc5 rfl (by simpa using Kw.nil)) rfl ?_
    rintro v12 Φ_16 D6 ⟨fr12,h12⟩
    replace h12:OSl (RI .i64) 3 1 Φ_16 [] v12 ([0,1,5,100000]:List Int):=by simpa using h12
    replace k2:=k2.f0 fr12
    replace k3:=fr12 _ _ (by simp) k3
    refine kcb [2] h rfl rfl rfl rfl (fun b ap z q=>gA N b (⟨p0.b,s5,s6⟩:a7) ([0,1,5,100000]:List Int) (ph0_0.y z) k3 (h12.rsl.x (Dj.app (ap.q 0 rfl) dN)) q) ?_
    rintro x8 h v13 Φ_17 F7 ⟨ap8,fr13,rfl,rfl,e7,h13⟩
    replace k2:=k2.fr fr13 (ap8.q 1 rfl) dN
    refine lf rN rfl rfl rfl<|so1 0 tV rfl rfl ?_
    refine en ?_
    exact wo [2,0] [0,0] (K (_,_,_,_) ⟨h,k2,h13⟩)
   refine WT.skip ?_
   exact wo [0,0] [0,0] (K (_,_,_,_) ⟨h,k2,k3⟩)
  refine ch h rfl ?_ ?_ <;> intro h
  ·refine att 3 [] rfl ?_
   exact wo [0] [0,0] (K _ h)
  refine WT.skip ?_
  exact wo [0] [0,0] (K _ h)
 refine ch h rfl ?_ ?_ <;> intro h
 ·refine WT.skip ?_
  exact wo [0] [0,0] (K _ h)
 refine att 4 [] rfl ?_
 exact wo [0] [0,0] (K _ h)
end Go.Proofs.YtedmfnmbjglmbaaGreat
