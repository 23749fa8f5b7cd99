/- Printed by a program of ours: each Go function computes its Lean function. -/
import Derived.Test.YtedmfnmbjglmbaaGreatProg
import Derived.Test.YtedmfnmbjglmbaaGreatWNetworkSort
import Derived.Test.YtedmfnmbjglmbaaGreatEP
namespace Go.Proofs.YtedmfnmbjglmbaaGreat
open Eng Tryz
open Go.RowKit (Below)
set_option linter.unusedVariables false
set_option linter.unusedSimpArgs false

set_option maxRecDepth 100000
set_option maxHeartbeats 1000000
theorem mixed:prog.follows .mixedOrders=true:=OX
theorem Cp:Sl prog 22 5 1=true:=OX
theorem lz:Str prog 9=true:=OX
theorem CT:Fld prog 87 2 2=true:=OX
theorem rO:Sl prog 83 201 3=true:=OX
theorem tV:Tn prog 201 3=true:=OX
theorem mg:(prog.info? 201).map (·.zero)=some (some (.agg #[.string ⟨#[]⟩,.slice none 0 0,.bool false])):=OX
theorem pO:Sz prog 201 3=true:=OX
theorem mB:Fld prog 201 2 2=true:=OX
theorem u6:T1 prog 3=true:=OX
theorem M2:Fun prog 97=true:=OX
theorem Nt:T1 prog 9=true:=OX
theorem B2:Fld prog 171 0 0=true:=OX
theorem B9:Fld prog 171 1 1=true:=OX
theorem kz:Tn prog 95 3=true:=OX
theorem uI:Pl prog 95 #[(0,1),(1,1),(2,1)]=true:=OX
theorem jg:(prog.info? 95).map (·.zero)=some (some (.agg #[iV 0,iV 0,.string ⟨#[]⟩])):=OX
theorem mi:EqT prog 95 [.i .i64,.i .i64,.s]=true:=OX
theorem zH:Sl prog 199 171 5=true:=OX
theorem nP:Tn prog 171 5=true:=OX
theorem kt:(prog.info? 171).map (·.zero)=some (some (.agg #[iV 0,.string ⟨#[]⟩,iV 0,iV 0,.string ⟨#[]⟩])):=OX
theorem jo:Sz prog 171 5=true:=OX
theorem rL:Tn prog 87 5=true:=OX
theorem EC:Fun prog 165=true:=OX
theorem Ks:Fun prog 211=true:=OX
theorem N8:Bo prog 4=true:=OX
theorem AJ:Fld prog 173 1 1=true:=OX
theorem Au:Fld prog 173 2 6=true:=OX
theorem AS:Fld prog 216 0 0=true:=OX
theorem wF:Fld prog 216 1 1=true:=OX
theorem uh:Fld prog 216 2 6=true:=OX
theorem zc:Pl prog 171 #[(0,1),(1,1),(2,3)]=true:=OX
theorem EF:EqT prog 171 [.i .i64,.s,.i .i64,.i .i64,.s]=true:=OX
theorem Gf:Fld prog 213 1 1=true:=OX
theorem nM:Fld prog 213 2 2=true:=OX
theorem BF:T1 prog 211=true:=OX
theorem wP:Sl prog 211 216 11=true:=OX
theorem ME:Tn prog 216 11=true:=OX
theorem wM:(prog.info? 216).map (·.zero)=some (some (.agg #[.string ⟨#[]⟩,iV 0,.string ⟨#[]⟩,iV 0,iV 0,.string ⟨#[]⟩,iV 0,.string ⟨#[]⟩,iV 0,iV 0,.string ⟨#[]⟩])):=OX
theorem BS:Sz prog 216 11=true:=OX
theorem GB:Fld prog 213 0 0=true:=OX
theorem C2:Tn prog 213 5=true:=OX
theorem wN:Fld prog 213 3 3=true:=OX
theorem GG:Fld prog 213 4 4=true:=OX
theorem jN:Sl prog 146 9 1=true:=OX
theorem E7:madeCells (Value.string ⟨#[]⟩:Value).cells (1*1) = #[.string ⟨#[]⟩]:=OX
theorem vv:(prog.info? 9).map (·.zero)=some (some (.string ⟨#[]⟩)):=OX
theorem My:(prog.info? 9).map (fun i=>(i.zero,i.size,i.bytes))=some (some (.string ⟨#[]⟩),1,16):=OX
theorem J0:Fld prog 87 3 3=true:=OX
theorem KO:Sl prog 84 173 11=true:=OX
theorem Lp:Tn prog 173 11=true:=OX
theorem vg:(prog.info? 173).map (·.zero)=some (some (.agg #[iV 0,iV 0,.string ⟨#[]⟩,iV 0,iV 0,.string ⟨#[]⟩,iV 0,.string ⟨#[]⟩,iV 0,iV 0,.string ⟨#[]⟩])):=OX
theorem zu:Sz prog 173 11=true:=OX
theorem Cj:madeCells (Value.agg #[iV 0,.string ⟨#[]⟩,iV 0,iV 0,.string ⟨#[]⟩]:Value).cells (2*5) = #[iV 0,.string ⟨#[]⟩,iV 0,iV 0,.string ⟨#[]⟩,iV 0,.string ⟨#[]⟩,iV 0,iV 0,.string ⟨#[]⟩]:=OX
theorem I6:Fld prog 87 4 4=true:=OX
theorem KZ:Sl prog 85 213 5=true:=OX
theorem ve:(prog.info? 213).map (·.zero)=some (some (.agg #[iV 0,.string ⟨#[]⟩,.slice none 0 0,iV 0,.string ⟨#[]⟩])):=OX
theorem vq:Sz prog 213 5=true:=OX
theorem Cw:Fld prog 87 0 0=true:=OX
theorem JY:Fun prog 164=true:=OX
theorem yW:Sl prog 24 87 5=true:=OX
theorem yR:Fld prog 26 1 1=true:=OX
theorem L4:T1 prog 24=true:=OX
theorem Km:Fun prog 170=true:=OX
theorem wx:(prog.info? 87).map (·.zero)=some (some (.agg #[.string ⟨#[]⟩,iV 0,.slice none 0 0,.slice none 0 0,.slice none 0 0])):=OX
theorem yK:Sz prog 87 5=true:=OX
theorem Fi:Tn prog 26 2=true:=OX
theorem Ic:Fld prog 52 1 1=true:=OX
theorem jq:Sl prog 50 95 3=true:=OX
theorem mj:Sz prog 95 3=true:=OX
theorem o7:Fld prog 29 0 0=true:=OX
theorem NG:T1 prog 27=true:=OX
theorem p9:Sl prog 27 66 3=true:=OX
theorem zA:Fld prog 29 1 1=true:=OX
theorem tI:(prog.info? 66).map (·.zero)=some (some (.agg #[iV 0,.string ⟨#[]⟩,.slice none 0 0])):=OX
theorem yY:Sz prog 66 3=true:=OX
theorem yr:Fld prog 66 1 1=true:=OX
theorem nw:Tn prog 52 2=true:=OX
theorem LO:Fun prog 63=true:=OX
theorem tL:Fld prog 66 0 0=true:=OX
theorem CI:(prog.info? 95).map (fun i=>(i.zero,i.size,i.bytes))=some (some (.agg #[iV 0,iV 0,.string ⟨#[]⟩]),3,32):=OX
theorem nv:(prog.info? 52).map (·.zero)=some (some (.agg #[.string ⟨#[]⟩,.slice none 0 0])):=OX
theorem K8:Fun prog 196=true:=OX
theorem FP:Pl prog 52 #[(0,1),(1,1)]=true:=OX
theorem oZ:Sz prog 52 2=true:=OX
theorem Ax:Fld prog 137 3 3=true:=OX
theorem tQ:T1 prog 60=true:=OX
theorem bw:Sl prog 60 3 1=true:=OX
theorem FW:Fld prog 137 2 2=true:=OX
theorem yA:madeCells (Value.agg #[.string ⟨#[]⟩,.slice none 0 0,.bool false]:Value).cells (1*3) = #[.string ⟨#[]⟩,.slice none 0 0,.bool false]:=OX
theorem E3:(prog.info? 201).map (fun i=>(i.zero,i.size,i.bytes))=some (some (.agg #[.string ⟨#[]⟩,.slice none 0 0,.bool false]),3,48):=OX
theorem Eq:(prog.info? 191).map (·.zero)=some (some (.agg #[.slice none 0 0,.slice none 0 0,.slice none 0 0,.slice none 0 0,.slice none 0 0,.slice none 0 0,iV 0,iV 0])):=OX
theorem CW:Fld prog 47 1 1=true:=OX
theorem B6:Sl prog 45 141 2=true:=OX
theorem Hu:Tn prog 141 2=true:=OX
theorem l5:Fld prog 35 0 0=true:=OX
theorem Cc:T1 prog 32=true:=OX
theorem sm:Tn prog 29 2=true:=OX
theorem FL:Fun prog 115=true:=OX
theorem LE:Pl prog 191 #[(0,1),(1,1),(2,2),(4,1),(5,2),(7,1)]=true:=OX
theorem HP:Sz prog 191 8=true:=OX
theorem HS:Tn prog 191 8=true:=OX
theorem lA:Sl prog 61 97 4=true:=OX
theorem rE:(prog.info? 97).map (·.zero)=some (some (.agg #[.string ⟨#[]⟩,iV 0,iV 0,.string ⟨#[]⟩])):=OX
theorem xu:(prog.info? 97).map (fun i=>(i.zero,i.size,i.bytes))=some (some (.agg #[.string ⟨#[]⟩,iV 0,iV 0,.string ⟨#[]⟩]),4,48):=OX
theorem KI:Tn prog 97 4=true:=OX
theorem N3:Sz prog 97 4=true:=OX
theorem H9:Fld prog 97 0 0=true:=OX
theorem HX:Fld prog 97 1 1=true:=OX
theorem JZ:Fun prog 222=true:=OX
theorem Lg:Pl prog 97 #[(0,1),(1,3)]=true:=OX
theorem FC:madeCells (Value.agg #[.string ⟨#[]⟩,iV 0,iV 0,.string ⟨#[]⟩]:Value).cells (1*4) = #[.string ⟨#[]⟩,iV 0,iV 0,.string ⟨#[]⟩]:=OX
theorem Fw:Fun prog 184=true:=OX
theorem eB:Sl prog 101 105 2=true:=OX
theorem Er:Tn prog 105 2=true:=OX
theorem kv:(prog.info? 105).map (·.zero)=some (some (.agg #[.slice none 0 0,.slice none 0 0])):=OX
theorem t8:Sz prog 105 2=true:=OX
theorem un:Fld prog 105 0 0=true:=OX
theorem uu:Fld prog 105 1 1=true:=OX
theorem A6:Sz prog 3 1=true:=OX
theorem tJ:madeCells (Value.agg #[.slice none 0 0,.slice none 0 0]:Value).cells (0*2) = #[]:=OX
theorem sJ:(prog.info? 105).map (fun i=>(i.zero,i.size,i.bytes))=some (some (.agg #[.slice none 0 0,.slice none 0 0]),2,48):=OX
theorem jR:(prog.info? 3).map (·.zero)=some (some (iV 0)):=OX
theorem oK:(prog.info? 3).map (fun i=>(i.zero,i.size,i.bytes))=some (some (iV 0),1,8):=OX
theorem DY:Fun prog 56=true:=OX
theorem jm:madeCells (Value.int .i64 0:Value).cells (1*1) = #[iV 0]:=OX
theorem IV:Pl prog 105 #[(0,1),(1,1)]=true:=OX
theorem yE:madeCells (Value.agg #[.slice none 0 0,.slice none 0 0]:Value).cells (1*2) = #[.slice none 0 0,.slice none 0 0]:=OX
theorem tB:Sz prog 60 1=true:=OX
theorem vI:Sl prog 98 103 1=true:=OX
theorem ig:Fld prog 103 0 0=true:=OX
theorem Bd:T1 prog 101=true:=OX
theorem EQ:Fun prog 179=true:=OX
theorem Eo:Sz prog 101 1=true:=OX
theorem Jy:Fun prog 197=true:=OX
theorem wE:Fld prog 141 0 0=true:=OX
theorem vF:Sl prog 32 133 1=true:=OX
theorem lm:Fld prog 133 0 0=true:=OX
theorem pU:Fld prog 47 0 0=true:=OX
theorem HC:T1 prog 44=true:=OX
theorem AH:Sl prog 44 137 4=true:=OX
theorem vu:Tn prog 137 4=true:=OX
theorem nK:(prog.info? 137).map (·.zero)=some (some (.agg #[.string ⟨#[]⟩,iV 0,.slice none 0 0,.slice none 0 0])):=OX
theorem sM:Sz prog 137 4=true:=OX
theorem yp:Fld prog 35 1 1=true:=OX
theorem EZ:Sl prog 33 100 1=true:=OX
theorem DN:Tn prog 100 1=true:=OX
theorem tv:(prog.info? 100).map (·.zero)=some (some (.agg #[.slice none 0 0])):=OX
theorem C3:Sz prog 100 1=true:=OX
theorem FV:Tn prog 47 2=true:=OX
theorem Az:Tn prog 35 2=true:=OX
theorem nG:Fld prog 100 0 0=true:=OX
theorem KJ:T1 prog 98=true:=OX
theorem Kd:Fun prog 134=true:=OX
theorem Hy:Pl prog 137 #[(0,1),(1,1),(2,1),(3,1)]=true:=OX
theorem Br:madeCells (Value.agg #[iV 0,iV 0,.string ⟨#[]⟩]:Value).cells (1*3) = #[iV 0,iV 0,.string ⟨#[]⟩]:=OX
theorem Fh:Sz prog 50 1=true:=OX
theorem Mb:Fun prog 85=true:=OX
theorem Ch:madeCells (Value.agg #[.string ⟨#[]⟩,iV 0,.slice none 0 0,.slice none 0 0]:Value).cells (1*4) = #[.string ⟨#[]⟩,iV 0,.slice none 0 0,.slice none 0 0]:=OX
theorem Ig:(prog.info? 137).map (fun i=>(i.zero,i.size,i.bytes))=some (some (.agg #[.string ⟨#[]⟩,iV 0,.slice none 0 0,.slice none 0 0]),4,72):=OX
theorem Le:Sz prog 44 1=true:=OX
theorem tq:(prog.info? 47).map (·.zero)=some (some (.agg #[.slice none 0 0,.slice none 0 0])):=OX
theorem tK:(prog.info? 141).map (·.zero)=some (some (.agg #[.slice none 0 0,.slice none 0 0])):=OX
theorem AQ:Fld prog 141 1 1=true:=OX
theorem Cn:madeCells (Value.agg #[.slice none 0 0,.slice none 0 0]:Value).cells (1*2) = #[.slice none 0 0,.slice none 0 0]:=OX
theorem HZ:(prog.info? 141).map (fun i=>(i.zero,i.size,i.bytes))=some (some (.agg #[.slice none 0 0,.slice none 0 0]),2,48):=OX
theorem KH:Sz prog 45 1=true:=OX
theorem ww:Sz prog 47 2=true:=OX
theorem tc:(prog.info? 35).map (·.zero)=some (some (.agg #[.slice none 0 0,.slice none 0 0])):=OX
theorem yO:(prog.info? 133).map (·.zero)=some (some (.agg #[.slice none 0 0])):=OX
theorem M0:By prog 133 24=true:=OX
theorem KM:Pl prog 35 #[(0,1),(1,1)]=true:=OX
theorem uD:Sz prog 35 2=true:=OX
theorem BL:Sz prog 141 2=true:=OX
theorem yT:(prog.info? 103).map (·.zero)=some (some (.agg #[.slice none 0 0])):=OX
theorem LF:By prog 103 24=true:=OX
theorem HR:Pl prog 100 #[(0,1)]=true:=OX
theorem Dd:madeCells (Value.agg #[.slice none 0 0]:Value).cells (1*1) = #[.slice none 0 0]:=OX
theorem HT:(prog.info? 100).map (fun i=>(i.zero,i.size,i.bytes))=some (some (.agg #[.slice none 0 0]),1,24):=OX
theorem KE:Sz prog 33 1=true:=OX
theorem KS:Pl prog 29 #[(0,1),(1,1)]=true:=OX
theorem AR:(prog.info? 29).map (·.zero)=some (some (.agg #[.slice none 0 0,iV 0])):=OX
theorem MD:Fun prog 68=true:=OX
theorem ID:Tn prog 133 1=true:=OX
theorem HN:Sz prog 133 1=true:=OX
theorem IR:Tn prog 103 1=true:=OX
theorem Iq:Sz prog 103 1=true:=OX
theorem O4:Fun prog 259=true:=OX
theorem OF:Ik prog 278 .u32=true:=OX
theorem Gb:Ik prog 5 .u8=true:=OX
theorem vJ:Ik prog 3 .i64=true:=OX
theorem OL:Ik prog 280 .u64=true:=OX
theorem tA:Ik prog 249 .u64=true:=OX
theorem Oy:T1 prog 282=true:=OX
theorem Ot:Sz prog 282 1=true:=OX
theorem OJ:Ik prog 282 .u64=true:=OX
theorem OT:(prog.info? 282).map (·.zero)=some (some (.int .u64 0)):=OX
theorem NY:Fun prog 268=true:=OX
theorem O7:Fun prog 263=true:=OX
theorem O6:Fun prog 262=true:=OX
theorem NW:Fun prog 242=true:=OX
theorem NZ:Fun prog 243=true:=OX
theorem O3:Fun prog 245=true:=OX
theorem NV:Fun prog 248=true:=OX
theorem O8:Fun prog 249=true:=OX
theorem O0:Fun prog 220=true:=OX
theorem NX:Fun prog 247=true:=OX
theorem O9:Fun prog 246=true:=OX
theorem O5:Fun prog 244=true:=OX
theorem HA:madeCells (Value.int .i64 0:Value).cells (2*1) = #[iV 0,iV 0]:=OX
theorem FE:Fun prog 181=true:=OX
theorem JE:Fun prog 183=true:=OX
theorem K0:Fun prog 114=true:=OX
theorem Jp:Fun prog 110=true:=OX
theorem Kv:Fun prog 112=true:=OX
theorem MA:Fun prog 42=true:=OX
theorem ep:Sl prog 41 63 3=true:=OX
theorem ky:Tn prog 63 3=true:=OX
theorem nA:(prog.info? 63).map (·.zero)=some (some (.agg #[iV 0,.slice none 0 0,.slice none 0 0])):=OX
theorem tu:Sz prog 63 3=true:=OX
theorem I4:Fld prog 63 0 0=true:=OX
theorem LI:EqT prog 97 [.s,.i .i64,.i .i64,.s]=true:=OX
theorem MP:Fun prog 51=true:=OX
theorem Mx:madeCells (Value.int .i64 0:Value).cells (3*1) = #[iV 0,iV 0,iV 0]:=OX
theorem Bq:Fun prog 253=true:=OX
theorem xQ:Fun prog 188=true:=OX
theorem Je:Fun prog 225=true:=OX
theorem FK:Fun prog 187=true:=OX
theorem JO:Fun prog 118=true:=OX
theorem Cm:Pl prog 63 #[(0,1),(1,1),(2,1)]=true:=OX
theorem sB:madeCells (Value.agg #[iV 0,.slice none 0 0,.slice none 0 0]:Value).cells (1*3) = #[iV 0,.slice none 0 0,.slice none 0 0]:=OX
theorem xk:(prog.info? 63).map (fun i=>(i.zero,i.size,i.bytes))=some (some (.agg #[iV 0,.slice none 0 0,.slice none 0 0]),3,56):=OX
theorem MG:Fun prog 58=true:=OX
theorem L8:T1 prog 41=true:=OX
theorem CX:Sz prog 41 1=true:=OX
theorem EX:Fun prog 190=true:=OX
theorem KR:(prog.info? 41).map (·.zero)=some (some (.slice none 0 0)):=OX
theorem OS:T1 prog 5=true:=OX
theorem LV:Pl prog 144 #[(0,1),(1,1),(2,1)]=true:=OX
theorem LD:(prog.info? 144).map (·.zero)=some (some (.agg #[.slice none 0 0,iV 0,iV 0])):=OX
theorem B8:Fld prog 144 2 2=true:=OX
theorem H5:Fld prog 144 1 1=true:=OX
theorem MJ:Fun prog 75=true:=OX
theorem BN:madeCells (Value.string ⟨#[]⟩:Value).cells (2*1) = #[.string ⟨#[]⟩,.string ⟨#[]⟩]:=OX
theorem Ku:Fun prog 126=true:=OX
theorem BX:madeCells (Value.string ⟨#[]⟩:Value).cells (4*1) = #[.string ⟨#[]⟩,.string ⟨#[]⟩,.string ⟨#[]⟩,.string ⟨#[]⟩]:=OX
theorem M6:Pl prog 201 #[(0,1),(1,1),(2,1)]=true:=OX
theorem KB:Fun prog 205=true:=OX
theorem HJ:madeCells (Value.agg #[iV 0,.string ⟨#[]⟩,iV 0,iV 0,.string ⟨#[]⟩]:Value).cells (1*5) = #[iV 0,.string ⟨#[]⟩,iV 0,iV 0,.string ⟨#[]⟩]:=OX
theorem LX:(prog.info? 171).map (fun i=>(i.zero,i.size,i.bytes))=some (some (.agg #[iV 0,.string ⟨#[]⟩,iV 0,iV 0,.string ⟨#[]⟩]),5,56):=OX
theorem Mq:Sz prog 199 1=true:=OX
theorem M5:Pl prog 173 #[(0,1),(1,5),(6,5)]=true:=OX
theorem Mp:Pl prog 216 #[(0,1),(1,5),(6,5)]=true:=OX
theorem M9:Sz prog 9 1=true:=OX
theorem M8:madeCells (Value.int .i64 0:Value).cells (8*1) = #[iV 0,iV 0,iV 0,iV 0,iV 0,iV 0,iV 0,iV 0]:=OX
theorem Mg:Pl prog 213 #[(0,1),(1,1),(2,1),(3,1),(4,1)]=true:=OX
theorem Mm:madeCells (Value.string ⟨#[]⟩:Value).cells (5*1) = #[.string ⟨#[]⟩,.string ⟨#[]⟩,.string ⟨#[]⟩,.string ⟨#[]⟩,.string ⟨#[]⟩]:=OX
theorem J2:Fun prog 209=true:=OX
theorem Hj:madeCells (Value.agg #[.string ⟨#[]⟩,iV 0,.string ⟨#[]⟩,iV 0,iV 0,.string ⟨#[]⟩,iV 0,.string ⟨#[]⟩,iV 0,iV 0,.string ⟨#[]⟩]:Value).cells (1*11) = #[.string ⟨#[]⟩,iV 0,.string ⟨#[]⟩,iV 0,iV 0,.string ⟨#[]⟩,iV 0,.string ⟨#[]⟩,iV 0,iV 0,.string ⟨#[]⟩]:=OX
theorem LT:(prog.info? 216).map (fun i=>(i.zero,i.size,i.bytes))=some (some (.agg #[.string ⟨#[]⟩,iV 0,.string ⟨#[]⟩,iV 0,iV 0,.string ⟨#[]⟩,iV 0,.string ⟨#[]⟩,iV 0,iV 0,.string ⟨#[]⟩]),11,128):=OX
theorem Lx:Sz prog 211 1=true:=OX
theorem MH:madeCells (Value.int .i64 0:Value).cells (4*1) = #[iV 0,iV 0,iV 0,iV 0]:=OX
theorem M7:madeCells (Value.int .i64 0:Value).cells (5*1) = #[iV 0,iV 0,iV 0,iV 0,iV 0]:=OX
theorem NS:Pl prog 87 #[(0,1),(1,1),(2,1),(3,1),(4,1)]=true:=OX
theorem FR:Fun prog 150=true:=OX
theorem KL:Sz prog 83 1=true:=OX
theorem Kx:Fun prog 105=true:=OX
theorem Ht:madeCells (Value.agg #[iV 0,.string ⟨#[]⟩,.slice none 0 0,iV 0,.string ⟨#[]⟩]:Value).cells (1*5) = #[iV 0,.string ⟨#[]⟩,.slice none 0 0,iV 0,.string ⟨#[]⟩]:=OX
theorem LN:(prog.info? 213).map (fun i=>(i.zero,i.size,i.bytes))=some (some (.agg #[iV 0,.string ⟨#[]⟩,.slice none 0 0,iV 0,.string ⟨#[]⟩]),5,72):=OX
theorem NO:Sz prog 85 1=true:=OX
theorem IT:madeCells (Value.agg #[iV 0,iV 0,.string ⟨#[]⟩,iV 0,iV 0,.string ⟨#[]⟩,iV 0,.string ⟨#[]⟩,iV 0,iV 0,.string ⟨#[]⟩]:Value).cells (1*11) = #[iV 0,iV 0,.string ⟨#[]⟩,iV 0,iV 0,.string ⟨#[]⟩,iV 0,.string ⟨#[]⟩,iV 0,iV 0,.string ⟨#[]⟩]:=OX
theorem Mo:(prog.info? 173).map (fun i=>(i.zero,i.size,i.bytes))=some (some (.agg #[iV 0,iV 0,.string ⟨#[]⟩,iV 0,iV 0,.string ⟨#[]⟩,iV 0,.string ⟨#[]⟩,iV 0,iV 0,.string ⟨#[]⟩]),11,120):=OX
theorem NF:Sz prog 84 1=true:=OX
theorem yb:(prog.info? 26).map (·.zero)=some (some (.agg #[.string ⟨#[]⟩,.slice none 0 0])):=OX
theorem MT:madeCells (Value.string ⟨#[]⟩:Value).cells (3*1) = #[.string ⟨#[]⟩,.string ⟨#[]⟩,.string ⟨#[]⟩]:=OX
theorem NQ:Pl prog 26 #[(0,1),(1,1)]=true:=OX
theorem AI:Sz prog 26 2=true:=OX
theorem Lt:Fun prog 89=true:=OX
theorem JL:madeCells (Value.agg #[.string ⟨#[]⟩,iV 0,.slice none 0 0,.slice none 0 0,.slice none 0 0]:Value).cells (1*5) = #[.string ⟨#[]⟩,iV 0,.slice none 0 0,.slice none 0 0,.slice none 0 0]:=OX
theorem Nb:(prog.info? 87).map (fun i=>(i.zero,i.size,i.bytes))=some (some (.agg #[.string ⟨#[]⟩,iV 0,.slice none 0 0,.slice none 0 0,.slice none 0 0]),5,96):=OX
theorem Nj:Sz prog 24 1=true:=OX
theorem JW:Fun prog 108=true:=OX
theorem Kk:Fun prog 203=true:=OX
theorem NB:Pl prog 47 #[(0,1),(1,1)]=true:=OX
theorem Mz:Pl prog 141 #[(0,1),(1,1)]=true:=OX
theorem Ka:madeCells (Value.agg #[iV 0,.string ⟨#[]⟩,.slice none 0 0]:Value).cells (0*3) = #[]:=OX
theorem ES:madeCells (Value.agg #[iV 0,.string ⟨#[]⟩,.slice none 0 0]:Value).cells (1*3) = #[iV 0,.string ⟨#[]⟩,.slice none 0 0]:=OX
theorem KX:(prog.info? 66).map (fun i=>(i.zero,i.size,i.bytes))=some (some (.agg #[iV 0,.string ⟨#[]⟩,.slice none 0 0]),3,48):=OX
theorem KF:Sz prog 27 1=true:=OX
theorem IA:Fun prog 48=true:=OX
theorem Jg:Fun prog 154=true:=OX
theorem N0:Pl prog 66 #[(0,1),(1,2)]=true:=OX
theorem Mr:Pl prog 133 #[(0,1)]=true:=OX
theorem Iv:madeCells (Value.agg #[.slice none 0 0]:Value).cells (1*1) = #[.slice none 0 0]:=OX
theorem Lv:(prog.info? 133).map (fun i=>(i.zero,i.size,i.bytes))=some (some (.agg #[.slice none 0 0]),1,24):=OX
theorem Na:Sz prog 32 1=true:=OX
theorem Lq:Pl prog 103 #[(0,1)]=true:=OX
theorem IZ:madeCells (Value.agg #[.slice none 0 0]:Value).cells (1*1) = #[.slice none 0 0]:=OX
theorem ML:(prog.info? 103).map (fun i=>(i.zero,i.size,i.bytes))=some (some (.agg #[.slice none 0 0]),1,24):=OX
theorem Ni:Sz prog 98 1=true:=OX
theorem FG:Fun prog 191=true:=OX
theorem xY:Fun prog 235=true:=OX
theorem J7:Fun prog 228=true:=OX
theorem Kt:Fun prog 229=true:=OX
theorem Ez:Fun prog 193=true:=OX
theorem Hx:Fun prog 46=true:=OX
theorem OD:By prog 3 8=true:=OX
theorem DH:Sl prog 242 4 1=true:=OX
theorem EU:Fun prog 230=true:=OX
theorem Jo:Fun prog 231=true:=OX
theorem MZ:(prog.info? 4).map (·.zero)=some (some (.bool false)):=OX
theorem Ji:Fun prog 194=true:=OX
theorem Mh:madeCells (Value.bool false:Value).cells (1*1) = #[.bool false]:=OX
theorem OC:(prog.info? 4).map (fun i=>(i.zero,i.size,i.bytes))=some (some (.bool false),1,1):=OX
theorem JS:Fun prog 195=true:=OX
theorem EP:Sz prog 29 2=true:=OX
theorem LM:Fun prog 87=true:=OX
theorem LB:Fun prog 45=true:=OX
theorem Kl:Fun prog 102=true:=OX
theorem Jq:Fun prog 103=true:=OX
theorem JU:Fun prog 104=true:=OX
theorem LW:Fun prog 43=true:=OX
theorem Mj:Fun prog 44=true:=OX
theorem Lu:Fun prog 47=true:=OX
theorem BY:Fun prog 201=true:=OX
theorem C6:madeCells (Value.agg #[iV 0,.slice none 0 0,.slice none 0 0]:Value).cells (0*3) = #[]:=OX
theorem Jb:Fun prog 142=true:=OX
variable {e a:Hp} {g f k j n a6:Value} {a1 l o p ai pG1_0:List Nat} {ad:Nat} (N:Nat)
theorem Es (w0:aA e a []) (b:(List Int)) (c:RSl (RI .u8) 1 e a1 g b) {r:Bool} (h:y0 N b=some r) :
  CB w0 prog 8 [g] (.bool r):=by
 refine eN func8 J ntmps8 J w0 fun d=>?_
 unfold y0 at h
 refine atr 7 [] J<|lnr c J<|art 3 [] J ?_
 exact rt d h
theorem tZ  (w0:aA e a []) (c:Int)  {r:Bool} (h:l7 N c=some r) :
  CB w0 prog 160 [.int .u8 c] (.bool r):=by
 refine eN func160 J ntmps160 J w0 fun d=>?_
 unfold l7 at h
 refine atr 9 [] J ?_
 obtain⟨i,b,h⟩:=bs h
 refine WL.cutN 3 [(8,.bool i),(2,.bool false)] ?_ (fun K=>?_)
 rotate_left
 ·refine sp 5 b J (fun b=>?_) fun b=>?_
  ·refine arr 3 [] J ?_
   cases b
   exact ku K
  ·refine arr 3 [] J ?_
   cases b
   exact ku K
 refine la J<|en ?_
 exact rt d h
theorem yk  (w0:aA e a []) (c:Int)  {r:Bool} (h:qU N c=some r) :
  CB w0 prog 236 [.int .u8 c] (.bool r):=by
 refine eN func236 J ntmps236 J w0 fun d=>?_
 unfold qU at h
 refine atr 9 [] J ?_
 obtain⟨i,b,h⟩:=bs h
 refine WL.cutN 3 [(8,.bool i),(2,.bool false)] ?_ (fun K=>?_)
 rotate_left
 ·refine sp 5 b J (fun b=>?_) fun b=>?_
  ·refine arr 3 [] J ?_
   cases b
   exact ku K
  ·refine arr 3 [] J ?_
   cases b
   exact ku K
 refine la J<|en ?_
 exact rt d h
theorem qV  (w0:aA e a []) (c:Int)  {r:Bool} (h:jr N c=some r) :
  CB w0 prog 210 [.int .u8 c] (.bool r):=by
 refine eN func210 J ntmps210 J w0 fun i=>?_
 unfold jr at h
 refine atr 7 [] J<|qc h (tZ N · c ·) J J J fun s h=>la J ?_
 obtain⟨m,b,h⟩:=bs h
 refine WL.cutN 3 [(8,.bool m),(0,.int .u8 c),(2,.bool false)] ?_ (fun K=>?_)
 rotate_left
 ·refine sp 5 b J (fun b=>?_) fun b=>?_
  ·refine arr 3 [] J ?_
   cases b
   exact ku K
  ·refine ly J J<|la J<|ly J J<|qc b (yk N · c ·) J J J fun t b=>la J ?_
   cases b
   exact ku K
 refine la J ?_
 obtain⟨q,d,h⟩:=bs h
 refine WL.cutN 3 [(12,.bool q),(2,.bool false)] ?_ (fun K=>?_)
 rotate_left
 ·refine sp 9 d J (fun d=>?_) fun d=>?_
  ·refine arr 3 [] J ?_
   cases d
   exact ku K
  ·refine arr 3 [] J ?_
   cases d
   exact ku K
 refine la J<|en ?_
 exact rt i h
theorem uG  (w0:aA e a []) (b:ByteArray) (d:Int)  {r:Bool} (h:nE N b d=some r) :
  CB w0 prog 161 [.string b,iV d] (.bool r):=by
 refine eN func161 J ntmps161 J w0 fun c=>?_
 unfold nE at h
 refine atr 8 [] J<|lq (oS lz J J) J<|art 3 [] J ?_
 refine ch h J ?_ ?_ <;> intro h
 ·refine att 4 [] J ?_
  exact rt c h
 refine att 7 [] J ?_
 refine lin (σ:=Int) (fun s=>[(0,.string b),(5,iV s)]) (fun s=>St w0 a [] []) (fun m s=>ft N b m s=some r) (0) N h (sx [] []) (fun i q s hm=>?_)
 revert hm;revert s;intro s1 hm
 have h:ft N b (i+1) s1=some r:=hm
 show WT _ _ [(0,.string b),(5,iV s1)] (St w0 a [] [])
 unfold ft at h
 refine atr 5 [] J<|lq (oS lz J J) J<|la J<|en ?_
 refine ch h J ?_ ?_ <;> intro h
 ·refine atr 7 [] J ?_
  obtain⟨t,u,h⟩:=bs h
  refine lq (lK lz J J u) J<|qc h (qV N · (t.toNat:Int) ·) J J J fun v h=>la J<|en ?_
  refine ch h J ?_ ?_ <;> intro h
  ·refine att 4 [] J ?_
   exact rt c h
  refine att 7 [] J ?_
  exact lb [] [] (q _ h)
 refine att 5 [] J ?_
 exact rt c h
theorem jW  (w0:aA e a []) (d:ByteArray)  {r:Bool} (h:iv N d=some r) :
  CB w0 prog 96 [.string d] (.bool r):=by
 refine eN func96 J ntmps96 J w0 fun i=>?_
 unfold iv at h
 refine atr 7 [] J<|lq (oS lz J J) J<|arr 2 [] J ?_
 obtain⟨m,b,h⟩:=bs h
 refine WL.cutN 4 [(10,.bool m),(0,.string d),(2,.bool false)] ?_ (fun K=>?_)
 rotate_left
 ·refine sp 6 b J (fun b=>?_) fun b=>?_
  ·refine ly J J<|la J<|ly J J ?_
   obtain⟨q,s,b⟩:=bs b
   refine lq (lK lz J J s) J<|ly J J<|qc b (tZ N · (q.toNat:Int) ·) J J J fun u b=>la J ?_
   cases b
   exact ku K
  ·refine arr 4 [] J ?_
   cases b
   exact ku K
 refine la J ?_
 obtain⟨t,c,h⟩:=bs h
 refine WL.cutN 3 [(14,.bool t),(2,.bool false)] ?_ (fun K=>?_)
 rotate_left
 ·refine sp 11 c J (fun c=>?_) fun c=>?_
  ·refine ly J J<|la J<|ly J J<|qc c (uG N · d 12 ·) J J J fun v c=>la J ?_
   cases c
   exact ku K
  ·refine arr 3 [] J ?_
   cases c
   exact ku K
 refine la J<|en ?_
 exact rt i h
theorem dE  (w0:aA e a []) (c:Int) (d:Int) (i:Int)  {r:Bool} (h:dK N c d i=some r) :
  CB w0 prog 97 [iV c,iV d,iV i] (.bool r):=by
 refine eN func97 J ntmps97 J w0 fun m=>?_
 unfold dK at h
 refine atr 10 [] J ?_
 obtain⟨q,b,h⟩:=bs h
 refine WL.cutN 4 [(14,.bool q),(6,.bool false)] ?_ (fun K=>?_)
 rotate_left
 ·refine sp 10 b J (fun b=>?_) fun b=>?_
  ·refine arr 4 [] J ?_
   cases b
   exact ku K
  ·refine arr 4 [] J ?_
   cases b
   exact ku K
 refine la J<|en ?_
 exact rt m h
theorem oX (w0:aA e a []) (b:ah) (c:RSl cI 3 e l f b.Pats) (w:RSl bT 11 e o k b.Conds) (x:RSl fm 5 e p j b.Acts) {r:Int} (h:jL N b=some r) :
  CB w0 prog 165 [.agg [.string b.Name,iV b.Sal,f,k,j].toArray] (iV r):=by
 refine eN func165 J ntmps165 J w0 fun q=>?_
 unfold jL at h
 refine sr<|lbx J fun y=>arr 11 [2,0] J<|lnr c J<|art 3 [] J ?_
 refine lin (σ:=Int × Int) (fun s=>[(3,iV s.1),(7,f),(8,iV (b.Pats.length:Int)),(9,iV s.2)]) (fun s=>St w0 a [] []) (fun m s=>eo N b m s.1 s.2=some r) (0,0) N h (sx [] []) (fun t d s hm=>?_)
 obtain⟨s1,s2⟩:=s
 have h:eo N b (t+1) s1 s2=some r:=hm
 show WT _ _ [(3,iV s1),(7,f),(8,iV (b.Pats.length:Int)),(9,iV s2)] (St w0 a [] [])
 unfold eo at h
 refine att 5 [] J ?_
 refine ch h J ?_ ?_ <;> intro h
 ·refine atr 5 [] J ?_
  obtain⟨z,i,h⟩:=bs h
  obtain⟨A,B,-,g1,C,D,u⟩:=c.el (a8 i).2.2
  obtain⟨v1,E,rfl,v,h1⟩:=u
  obtain rfl:=v.symm
  refine lia c i J<|lhx 0 3 g1 J<|lnz mg J fun F=>soN 0 pO J ⟨J,h1.one,J,trivial⟩ J ?_
  refine art 7 [2,0] J ?_
  refine ch h J ?_ ?_ <;> intro h
  ·refine att 10 [] J ?_
   exact lb [] [] (d (_,_) h)
  refine att 6 [] J ?_
  exact lb [] [] (d (_,_) h)
 refine att 6 [] J ?_
 exact rt q h
theorem wk  (w0:aA e a []) (c:bn)  {r:Bool} (h:mF N c=some r) :
  CB w0 prog 128 [.agg [iV c.K,iV c.N,.string c.S].toArray] (.bool r):=by
 refine eN func128 J ntmps128 J w0 fun i=>?_
 unfold mF at h
 refine sr<|lbx J fun s=>art 14 [0,0] J ?_
 refine ch h J ?_ ?_ <;> intro h
 ·refine atr 4 [1,0] J<|qc h (dE N · c.N (-1000000000) 1000000000 ·) J J J fun t h=>la J ?_
  obtain⟨m,d,h⟩:=bs h
  refine WL.cutN 4 [(14,.bool m),(2,.bool false)] ?_ (fun K=>?_)
  rotate_left
  ·refine sp 10 d J (fun d=>?_) fun d=>?_
   ·refine arr 4 [2,0] J ?_
    cases d
    exact ku K
   ·refine arr 4 [] J ?_
    cases d
    exact ku K
  refine la J<|en ?_
  exact rt i h
 refine att 5 [] J ?_
 refine ch h J ?_ ?_ <;> intro h
 ·refine atr 6 [1,0] J ?_
  obtain⟨q,b,h⟩:=bs h
  refine WL.cutN 4 [(24,.bool q),(2,.bool false)] ?_ (fun K=>?_)
  rotate_left
  ·refine sp 20 b J (fun b=>?_) fun b=>?_
   ·refine arr 2 [2,0] J<|ly J J<|qc b (uG N · c.S 20 ·) J J J fun u b=>la J ?_
    cases b
    exact ku K
   ·refine arr 4 [] J ?_
    cases b
    exact ku K
  refine la J<|en ?_
  exact rt i h
 refine att 6 [] J ?_
 exact rt i h
theorem tU  (w0:aA e a []) (c:Int)  {r:Bool} (h:mG N c=some r) :
  CB w0 prog 267 [.int .u8 c] (.bool r):=by
 refine eN func267 J ntmps267 J w0 fun d=>?_
 unfold mG at h
 refine atr 9 [] J ?_
 obtain⟨i,b,h⟩:=bs h
 refine WL.cutN 3 [(8,.bool i),(2,.bool false)] ?_ (fun K=>?_)
 rotate_left
 ·refine sp 5 b J (fun b=>?_) fun b=>?_
  ·refine arr 3 [] J ?_
   cases b
   exact ku K
  ·refine arr 3 [] J ?_
   cases b
   exact ku K
 refine la J<|en ?_
 exact rt d h
theorem Bn  (w0:aA e a []) (b:ByteArray)  {r:Bool} (h:rJ N b=some r) :
  CB w0 prog 256 [.string b] (.bool r):=by
 refine eN func256 J ntmps256 J w0 fun q=>?_
 unfold rJ at h
 refine atr 8 [] J<|lq (oS lz J J) J<|arr 2 [] J ?_
 obtain⟨t,i,h⟩:=bs h
 refine WL.cutN 4 [(11,.bool t),(0,.string b)] ?_ (fun K=>?_)
 rotate_left
 ·refine sp 7 i J (fun i=>?_) fun i=>?_
  ·refine arr 4 [] J ?_
   cases i
   exact ku K
  ·refine ly J J<|la J<|ly J J<|lq (oS lz J J) J<|arr 2 [] J ?_
   cases i
   exact ku K
 refine la J ?_
 obtain⟨u,c,h⟩:=bs h
 refine WL.cutN 5 [(17,.bool u),(0,.string b)] ?_ (fun K=>?_)
 rotate_left
 ·refine sp 12 c J (fun c=>?_) fun c=>?_
  ·refine arr 5 [] J ?_
   cases c
   exact ku K
  ·refine ly J J<|la J<|ly J J ?_
   obtain⟨v,w,c⟩:=bs c
   refine lq (lK lz J J w) J<|ly J J<|qc c (tU N · (v.toNat:Int) ·) J J J fun E c=>arr 2 [] J ?_
   cases c
   exact ku K
 refine en ?_
 refine ch h J ?_ ?_ <;> intro h
 ·refine att 4 [] J ?_
  exact rt q h
 refine att 7 [] J ?_
 refine lin (σ:=Int) (fun s=>[(0,.string b),(3,iV s)]) (fun s=>St w0 a [] []) (fun m s=>iP N b m s=some r) (0) N h (sx [] []) (fun x y s hm=>?_)
 revert hm;revert s;intro s1 hm
 have h:iP N b (x+1) s1=some r:=hm
 show WT _ _ [(0,.string b),(3,iV s1)] (St w0 a [] [])
 unfold iP at h
 refine atr 5 [] J<|lq (oS lz J J) J<|la J<|en ?_
 refine ch h J ?_ ?_ <;> intro h
 ·refine atr 7 [] J ?_
  obtain⟨z,A,h⟩:=bs h
  refine lq (lK lz J J A) J<|qc h (qV N · (z.toNat:Int) ·) J J J fun F h=>arr 2 [] J ?_
  obtain⟨B,d,h⟩:=bs h
  refine WL.cutN 6 [(35,.bool B),(0,.string b),(3,iV s1)] ?_ (fun K=>?_)
  rotate_left
  ·refine sp 29 d J (fun d=>?_) fun d=>?_
   ·refine arr 2 [] J<|ly J J ?_
    obtain⟨C,D,d⟩:=bs d
    refine lq (lK lz J J D) J<|ly J J<|qc d (tU N · (C.toNat:Int) ·) J J J fun G d=>arr 2 [] J ?_
    cases d
    exact ku K
   ·refine arr 6 [] J ?_
    cases d
    exact ku K
  refine en ?_
  refine ch h J ?_ ?_ <;> intro h
  ·refine att 4 [] J ?_
   exact rt q h
  refine att 7 [] J ?_
  exact lb [] [] (y _ h)
 refine att 5 [] J ?_
 exact rt q h
theorem wv  (w0:aA e a []) (b:bZ)  {r:Bool} (h:pC N b=some r) :
  CB w0 prog 237 [.agg [iV b.K,.string b.S,iV b.V.K,iV b.V.N,.string b.V.S].toArray] (.bool r):=by
 refine eN func237 J ntmps237 J w0 fun m=>?_
 unfold pC at h
 refine sr<|lbx J fun u=>art 14 [0,0] J ?_
 refine ch h J ?_ ?_ <;> intro h
 ·refine atr 4 [1,0] J<|qc h (Bn N · b.S ·) J J J fun v h=>la J ?_
  obtain⟨q,d,h⟩:=bs h
  refine WL.cutN 5 [(15,.bool q),(2,.bool false)] ?_ (fun K=>?_)
  rotate_left
  ·refine sp 10 d J (fun d=>?_) fun d=>?_
   ·refine arr 2 [2,3] J<|ly J J<|lq (bA (vs:=[]) (C:=#[iV 0,iV 0,.string (⟨#[]⟩:ByteArray)]) uI jg J (ae)) J<|ly J J<|lq (yG mi J J J (r:=bp b.V (⟨0,0,(⟨#[]⟩:ByteArray)⟩:bn)) J) J<|la J ?_
    cases d
    exact ku K
   ·refine arr 5 [] J ?_
    cases d
    exact ku K
  refine la J<|en ?_
  exact rt m h
 refine att 5 [] J ?_
 refine ch h J ?_ ?_ <;> intro h
 ·refine atr 6 [1,0] J ?_
  obtain⟨s,c,h⟩:=bs h
  refine WL.cutN 4 [(25,.bool s),(2,.bool false)] ?_ (fun K=>?_)
  rotate_left
  ·refine sp 21 c J (fun c=>?_) fun c=>?_
   ·refine arr 2 [2,3] J<|ly J J<|qc c (wk N · b.V ·) J J J fun w c=>la J ?_
    cases c
    exact ku K
   ·refine arr 4 [] J ?_
    cases c
    exact ku K
  refine la J<|en ?_
  exact rt m h
 refine att 5 [] J ?_
 refine ch h J ?_ ?_ <;> intro h
 ·refine atr 6 [1,0] J ?_
  obtain⟨t,i,h⟩:=bs h
  refine WL.cutN 5 [(36,.bool t),(2,.bool false)] ?_ (fun K=>?_)
  rotate_left
  ·refine sp 31 i J (fun i=>?_) fun i=>?_
   ·refine arr 2 [2,3] J<|ly J J<|lq (bA (vs:=[]) (C:=#[iV 0,iV 0,.string (⟨#[]⟩:ByteArray)]) uI jg J (ae)) J<|ly J J<|lq (yG mi J J J (r:=bp b.V (⟨0,0,(⟨#[]⟩:ByteArray)⟩:bn)) J) J<|la J ?_
    cases i
    exact ku K
   ·refine arr 5 [] J ?_
    cases i
    exact ku K
  refine la J<|en ?_
  exact rt m h
 refine att 6 [] J ?_
 exact rt m h
theorem C7 (w0:aA e a []) (b:az) (d:RSl f8 5 e l f b.Args) {r:Bool} (h:rP N b=some r) :
  CB w0 prog 211 [.agg [.string b.Kind,f,.bool b.Not].toArray] (.bool r):=by
 refine eN func211 J ntmps211 J w0 fun i=>?_
 unfold rP at h
 refine sr<|lbx J fun t=>arr 7 [0,0] J<|qc h (jW N · b.Kind ·) J J J fun z h=>arr 2 [] J ?_
 obtain⟨u,c,h⟩:=bs h
 refine WL.cutN 5 [(14,.bool u),(1,pQ t)] ?_ (fun K=>?_)
 rotate_left
 ·refine sp 9 c J (fun c=>?_) fun c=>?_
  ·refine arr 5 [] J ?_
   cases c
   exact ku K
  ·refine arr 2 [1,0] J<|ly J J<|lnr d J<|arr 2 [] J ?_
   cases c
   exact ku K
 refine en ?_
 refine ch h J ?_ ?_ <;> intro h
 ·refine att 4 [] J ?_
  exact rt i h
 refine atr 6 [1,0] J<|lnr d J<|art 3 [] J ?_
 refine lin (σ:=Int) (fun s=>[(16,f),(17,iV (b.Args.length:Int)),(18,iV s)]) (fun s=>St w0 a [] []) (fun m s=>iQ N b m s=some r) (0) N h (sx [] []) (fun v w s hm=>?_)
 revert hm;revert s;intro s1 hm
 have h:iQ N b (v+1) s1=some r:=hm
 show WT _ _ [(16,f),(17,iV (b.Args.length:Int)),(18,iV s1)] (St w0 a [] [])
 unfold iQ at h
 refine att 5 [] J ?_
 refine ch h J ?_ ?_ <;> intro h
 ·refine atr 5 [] J ?_
  obtain⟨x,q,h⟩:=bs h
  obtain⟨A,B,-,g1,C,D,y⟩:=d.el (a8 q).2.2
  obtain⟨rfl,-⟩:=y
  refine lia d q J<|lhx 0 5 g1 J<|lnz kt J fun E=>soN 0 jo J ⟨J,J,J,J,J,trivial⟩ J ?_
  refine arr 4 [5] J<|qc h (wv N · x ·) J J J fun F h=>la J<|en ?_
  refine ch h J ?_ ?_ <;> intro h
  ·refine att 4 [] J ?_
   exact rt i h
  refine att 6 [] J ?_
  exact lb [] [] (w _ h)
 refine att 5 [] J ?_
 exact rt i h
theorem zU (w0:aA e a []) (b:ah) (t:RSl cI 3 e l f b.Pats) (y:RSl bT 11 e o k b.Conds) (z:RSl fm 5 e p j b.Acts) {r:Bool} (h:qJ N b=some r) :
  CB w0 prog 162 [.agg [.string b.Name,iV b.Sal,f,k,j].toArray] (.bool r):=by
 refine eN func162 J ntmps162 J w0 fun v=>?_
 unfold qJ at h
 refine sr<|lbx J fun u=>arr 7 [2,0] J<|lnr t J<|qc h (dE N · (b.Pats.length:Int) 1 6 ·) J J J fun O h=>arr 2 [] J ?_
 obtain⟨C,c,h⟩:=bs h
 refine WL.cutN 5 [(15,.bool C),(1,pQ u)] ?_ (fun K=>?_)
 rotate_left
 ·refine sp 10 c J (fun c=>?_) fun c=>?_
  ·refine arr 5 [] J ?_
   cases c
   exact ku K
  ·refine ly J J<|ld5 rL 0 J<|ly J J<|qd c (oX N · b t y z ·) J J J fun D c=>ly J J<|qc c (dE N · D 1 3 ·) J J J fun P c=>arr 2 [] J ?_
   cases c
   exact ku K
 refine en ?_
 refine ch h J ?_ ?_ <;> intro h
 ·refine att 4 [] J ?_
  exact rt v h
 refine atr 6 [2,0] J<|lnr t J<|art 3 [] J ?_
 refine lin (σ:=Int) (fun s=>[(1,pQ u),(17,f),(18,iV (b.Pats.length:Int)),(19,iV s)]) (fun s=>St w0 a [(u,.cells #[.string b.Name,iV b.Sal,f,k,j] 87 (0,0))] []) (fun m s=>fF N b m s=some r) (0) N h (sx [] [0]) (fun E F s hm=>?_)
 revert hm;revert s;intro s1 hm
 have h:fF N b (E+1) s1=some r:=hm
 show WT _ _ [(1,pQ u),(17,f),(18,iV (b.Pats.length:Int)),(19,iV s1)] (St w0 a [(u,.cells #[.string b.Name,iV b.Sal,f,k,j] 87 (0,0))] [])
 unfold fF at h
 refine att 5 [] J ?_
 refine ch h J ?_ ?_ <;> intro h
 ·refine atr 6 [] J ?_
  obtain⟨w,A,h⟩:=bs h
  obtain⟨Q,R,-,g1,S,T,G⟩:=t.el (a8 A).2.2
  obtain⟨v1,U,rfl,H,h1⟩:=G
  obtain rfl:=H.symm
  refine lia t A J<|lhx 0 3 g1 J<|lnz mg J fun V=>la J<|soN 0 pO J ⟨J,h1.one,J,trivial⟩ J ?_
  refine en<|sq<|WT.draw mixed OX (fun _ h=>h.drew)<|qq (ay tV J (fun B hw=>hw.rgO (i:=0) J 0 3 [.string w.Kind,v1,.bool w.Not] J) J) J ?_
  obtain⟨W,I,h⟩:=bs h
  refine qp (fj Ks J (fun B hw=>C7 N (ba hw.in0) w h1 I)) J<|aqq 2 [] J ?_
  obtain⟨L,q,h⟩:=bs h
  refine WQ.cutN 8 [(35,.bool L),(1,pQ u),(17,f),(18,iV (b.Pats.length:Int)),(19,iV s1)] ?_ (fun K=>?_)
  rotate_left
  ·refine WQ.split (d:=27) J (fun x=>?_) (fun x=>?_)
   ·replace q:=iE q x
    refine aqq 8 [] J ?_
    cases q
    exact kq K
   ·replace q:=iF q x
    refine aqq 4 [2,0,37] J<|WQ.yes J J ?_
    obtain⟨X,M,q⟩:=bs q
    refine qp (fj EC J (fun B hw=>oX N (ba hw.in0) b t y z M)) J<|WQ.yes J J<|qq (KD J J) J<|WQ.yes J J<|qq (Nz N8 J J) J<|WQ.q (rc J J) J J J ?_
    cases q
    exact kq K
  refine WQ.nil ?_
  refine ch h J ?_ ?_ <;> intro h
  ·refine att 4 [] J ?_
   exact rt v h
  refine att 6 [] J ?_
  exact lb [] [1] (F _ h)
 refine att 5 [] J ?_
 exact rt v h
theorem lN  (w0:aA e a []) (b:bZ)  {r:Bool} (h:jI N b=some r) :
  CB w0 prog 212 [.agg [iV b.K,.string b.S,iV b.V.K,iV b.V.N,.string b.V.S].toArray] (.bool r):=by
 refine eN func212 J ntmps212 J w0 fun d=>?_
 unfold jI at h
 refine sr<|lbx J fun m=>arr 8 [0,0] J ?_
 obtain⟨i,c,h⟩:=bs h
 refine WL.cutN 3 [(9,.bool i),(2,.bool false)] ?_ (fun K=>?_)
 rotate_left
 ·refine sp 6 c J (fun c=>?_) fun c=>?_
  ·refine ly J J<|ld5 nP 0 J<|ly J J<|qc c (wv N · b ·) J J J fun q c=>la J ?_
   cases c
   exact ku K
  ·refine arr 3 [] J ?_
   cases c
   exact ku K
 refine la J<|en ?_
 exact rt d h
theorem zO  (w0:aA e a []) (b:cX)  {r:Bool} (h:pN N b=some r) :
  CB w0 prog 163 [.agg [iV b.Op,iV b.L.K,.string b.L.S,iV b.L.V.K,iV b.L.V.N,.string b.L.V.S,iV b.R.K,.string b.R.S,iV b.R.V.K,iV b.R.V.N,.string b.R.V.S].toArray] (.bool r):=by
 refine eN func163 J ntmps163 J w0 fun i=>?_
 unfold pN at h
 refine sr<|lbx J fun m=>arr 6 [0,0] J<|qc h (dE N · b.Op 1 3 ·) J J J fun t h=>la J ?_
 obtain⟨q,c,h⟩:=bs h
 refine WL.cutN 4 [(10,.bool q),(1,pQ m),(2,.bool false)] ?_ (fun K=>?_)
 rotate_left
 ·refine sp 6 c J (fun c=>?_) fun c=>?_
  ·refine arr 2 [1,5] J<|ly J J<|qc c (lN N · b.L ·) J J J fun u c=>la J ?_
   cases c
   exact ku K
  ·refine arr 4 [] J ?_
   cases c
   exact ku K
 refine la J ?_
 obtain⟨s,d,h⟩:=bs h
 refine WL.cutN 4 [(15,.bool s),(2,.bool false)] ?_ (fun K=>?_)
 rotate_left
 ·refine sp 11 d J (fun d=>?_) fun d=>?_
  ·refine arr 2 [6,5] J<|ly J J<|qc d (lN N · b.R ·) J J J fun v d=>la J ?_
   cases d
   exact ku K
  ·refine arr 4 [] J ?_
   cases d
   exact ku K
 refine la J<|en ?_
 exact rt i h
theorem Am  (w0:aA e a []) (b:d5)  {r:Bool} (h:qk N b=some r) :
  CB w0 prog 238 [.agg [.string b.Op,iV b.L.K,.string b.L.S,iV b.L.V.K,iV b.L.V.N,.string b.L.V.S,iV b.R.K,.string b.R.S,iV b.R.V.K,iV b.R.V.N,.string b.R.V.S].toArray] (.bool r):=by
 refine eN func238 J ntmps238 J w0 fun m=>?_
 unfold qk at h
 refine sr<|lbx J fun i=>art 14 [0,0] J ?_
 refine ch h J ?_ ?_ <;> intro h
 ·refine atr 4 [1,5] J<|qc h (lN N · b.L ·) J J J fun u h=>la J ?_
  obtain⟨q,d,h⟩:=bs h
  refine WL.cutN 5 [(15,.bool q),(2,.bool false)] ?_ (fun K=>?_)
  rotate_left
  ·refine sp 10 d J (fun d=>?_) fun d=>?_
   ·refine arr 2 [6,5] J<|ly J J<|lq (bA (vs:=[]) (C:=#[iV 0,.string (⟨#[]⟩:ByteArray),iV 0,iV 0,.string (⟨#[]⟩:ByteArray)]) zc kt J (ae)) J<|ly J J<|lq (yG EF J J J (r:=om b.R (⟨0,(⟨#[]⟩:ByteArray),(⟨0,0,(⟨#[]⟩:ByteArray)⟩:bn)⟩:bZ)) J) J<|la J ?_
    cases d
    exact ku K
   ·refine arr 5 [] J ?_
    cases d
    exact ku K
  refine la J<|en ?_
  exact rt m h
 refine att 6 [] J ?_
 refine cut (σ:=Bool) (fun s=>[(1,pQ i),(16,.bool s)]) (fun s=>St w0 a [(i,.cells #[.string b.Op,iV b.L.K,.string b.L.S,iV b.L.V.K,iV b.L.V.N,.string b.L.V.S,iV b.R.K,.string b.R.S,iV b.R.V.K,iV b.R.V.N,.string b.R.V.S] 216 (0,0))] []) (fun s=>jX N b s=some r) (fun s hm=>?_) (fun K=>?_)
 ·clear h
  revert hm;revert s;intro s1 hm
  have h:jX N b s1=some r:=hm
  show WT _ _ [(1,pQ i),(16,.bool s1)] (St w0 a [(i,.cells #[.string b.Op,iV b.L.K,.string b.L.S,iV b.L.V.K,iV b.L.V.N,.string b.L.V.S,iV b.R.K,.string b.R.S,iV b.R.V.K,iV b.R.V.N,.string b.R.V.S] 216 (0,0))] [])
  unfold jX at h
  refine ch h J ?_ ?_ <;> intro h
  ·refine atr 4 [1,5] J<|qc h (lN N · b.L ·) J J J fun v h=>la J ?_
   obtain⟨t,c,h⟩:=bs h
   refine WL.cutN 4 [(26,.bool t)] ?_ (fun K=>?_)
   rotate_left
   ·refine sp 22 c J (fun c=>?_) fun c=>?_
    ·refine arr 2 [6,5] J<|ly J J<|qc c (lN N · b.R ·) J J J fun w c=>la J ?_
     cases c
     exact ku K
    ·refine arr 4 [] J ?_
     cases c
     exact ku K
   refine la J<|en ?_
   exact rt m h
  refine att 6 [] J ?_
  exact rt m h
 refine ch h J ?_ ?_ <;> intro h
 ·refine WT.skip ?_
  exact wo [] [0] (K _ h)
 refine att 4 [] J ?_
 exact wo [] [0] (K _ h)
theorem rm (w0:aA e a []) (b:ei) (d:RSl de 11 e l f b.Args) {r:Bool} (h:m8 N b=some r) :
  CB w0 prog 213 [.agg [iV b.Kind,.string b.Name,f,iV b.N,.string b.Undo].toArray] (.bool r):=by
 refine eN func213 J ntmps213 J w0 fun i=>?_
 unfold m8 at h
 refine sr<|lbx J fun t=>arr 7 [1,0] J<|qc h (jW N · b.Name ·) J J J fun z h=>arr 2 [] J ?_
 obtain⟨u,c,h⟩:=bs h
 refine WL.cutN 5 [(14,.bool u),(1,pQ t)] ?_ (fun K=>?_)
 rotate_left
 ·refine sp 9 c J (fun c=>?_) fun c=>?_
  ·refine arr 5 [] J ?_
   cases c
   exact ku K
  ·refine arr 2 [2,0] J<|ly J J<|lnr d J<|arr 2 [] J ?_
   cases c
   exact ku K
 refine en ?_
 refine ch h J ?_ ?_ <;> intro h
 ·refine att 4 [] J ?_
  exact rt i h
 refine atr 6 [2,0] J<|lnr d J<|art 3 [] J ?_
 refine lin (σ:=Int) (fun s=>[(16,f),(17,iV (b.Args.length:Int)),(18,iV s)]) (fun s=>St w0 a [] []) (fun m s=>fC N b m s=some r) (0) N h (sx [] []) (fun v w s hm=>?_)
 revert hm;revert s;intro s1 hm
 have h:fC N b (v+1) s1=some r:=hm
 show WT _ _ [(16,f),(17,iV (b.Args.length:Int)),(18,iV s1)] (St w0 a [] [])
 unfold fC at h
 refine att 5 [] J ?_
 refine ch h J ?_ ?_ <;> intro h
 ·refine atr 5 [] J ?_
  obtain⟨x,q,h⟩:=bs h
  obtain⟨A,B,-,g1,C,D,y⟩:=d.el (a8 q).2.2
  obtain⟨rfl,-⟩:=y
  refine lia d q J<|lhx 0 11 g1 J<|lnz wM J fun E=>soN 0 BS J ⟨J,J,J,J,J,J,J,J,J,J,J,trivial⟩ J ?_
  refine arr 4 [11] J<|qc h (Am N · x ·) J J J fun F h=>la J<|en ?_
  refine ch h J ?_ ?_ <;> intro h
  ·refine att 4 [] J ?_
   exact rt i h
  refine att 6 [] J ?_
  exact lb [] [] (w _ h)
 refine att 5 [] J ?_
 exact rt i h
theorem Ai  (w0:aA e a []) (c:ByteArray)  {r:Bool} (h:sO N c=some r) :
  CB w0 prog 214 [.string c] (.bool r):=by
 refine eN func214 J ntmps214 J w0 fun d=>?_
 unfold sO at h
 refine atr 9 [] J ?_
 obtain⟨i,b,h⟩:=bs h
 refine WL.cutN 3 [(8,.bool i),(2,.bool false)] ?_ (fun K=>?_)
 rotate_left
 ·refine sp 5 b J (fun b=>?_) fun b=>?_
  ·refine arr 3 [] J ?_
   cases b
   exact ku K
  ·refine ly J J<|la J<|ly J J<|qc b (jW N · c ·) J J J fun m b=>la J ?_
   cases b
   exact ku K
 refine la J<|en ?_
 exact rt d h
theorem BM (w0:aA e a []) (b:ei) (C:RSl de 11 e l f b.Args) {r:Bool} (h:rQ N b=some r) :
  CB w0 prog 164 [.agg [iV b.Kind,.string b.Name,f,iV b.N,.string b.Undo].toArray] (.bool r):=by
 refine eN func164 J ntmps164 J w0 fun q=>?_
 unfold rQ at h
 refine sr<|lbx J fun c=>arr 8 [1,0] J ?_
 obtain⟨t,u,h⟩:=bs h
 refine WL.cutN 5 [(12,.bool t),(1,pQ c)] ?_ (fun K=>?_)
 rotate_left
 ·refine sp 7 u J (fun u=>?_) fun u=>?_
  ·refine arr 2 [2,0] J<|ly J J<|lnr C J<|arr 2 [] J ?_
   cases u
   exact ku K
  ·refine arr 5 [] J ?_
   cases u
   exact ku K
 refine art 14 [0,0] J ?_
 refine ch h J ?_ ?_ <;> intro h
 ·refine atr 3 [5] J<|qd h (rm N · b C ·) J J J fun Q h=>la J ?_
  obtain⟨D,v,h⟩:=bs h
  refine WL.cutN 4 [(23,.bool D),(1,pQ c)] ?_ (fun K=>?_)
  rotate_left
  ·refine sp 19 v J (fun v=>?_) fun v=>?_
   ·refine arr 4 [3,0] J ?_
    cases v
    exact ku K
   ·refine arr 4 [] J ?_
    cases v
    exact ku K
  refine la J ?_
  obtain⟨E,w,h⟩:=bs h
  refine WL.cutN 4 [(28,.bool E)] ?_ (fun K=>?_)
  rotate_left
  ·refine sp 24 w J (fun w=>?_) fun w=>?_
   ·refine arr 4 [4,0] J ?_
    cases w
    exact ku K
   ·refine arr 4 [] J ?_
    cases w
    exact ku K
  refine la J<|en ?_
  exact rt q h
 refine att 5 [] J ?_
 refine ch h J ?_ ?_ <;> intro h
 ·refine atr 4 [] J ?_
  obtain⟨F,d,h⟩:=bs h
  refine WL.cutN 4 [(36,.bool F),(1,pQ c)] ?_ (fun K=>?_)
  rotate_left
  ·refine sp 32 d J (fun d=>?_) fun d=>?_
   ·refine arr 2 [3,0] J<|ly J J<|qc d (dE N · b.N 0 7 ·) J J J fun R d=>la J ?_
    cases d
    exact ku K
   ·refine arr 4 [] J ?_
    cases d
    exact ku K
  refine la J ?_
  obtain⟨G,x,h⟩:=bs h
  refine WL.cutN 4 [(41,.bool G)] ?_ (fun K=>?_)
  rotate_left
  ·refine sp 37 x J (fun x=>?_) fun x=>?_
   ·refine arr 4 [4,0] J ?_
    cases x
    exact ku K
   ·refine arr 4 [] J ?_
    cases x
    exact ku K
  refine la J<|en ?_
  exact rt q h
 refine att 5 [] J ?_
 refine ch h J ?_ ?_ <;> intro h
 ·refine atr 3 [5] J<|qd h (rm N · b C ·) J J J fun S h=>la J ?_
  obtain⟨H,y,h⟩:=bs h
  refine WL.cutN 4 [(50,.bool H),(1,pQ c)] ?_ (fun K=>?_)
  rotate_left
  ·refine sp 46 y J (fun y=>?_) fun y=>?_
   ·refine arr 4 [3,0] J ?_
    cases y
    exact ku K
   ·refine arr 4 [] J ?_
    cases y
    exact ku K
  refine la J ?_
  obtain⟨I,i,h⟩:=bs h
  refine WL.cutN 4 [(55,.bool I)] ?_ (fun K=>?_)
  rotate_left
  ·refine sp 51 i J (fun i=>?_) fun i=>?_
   ·refine arr 2 [4,0] J<|ly J J<|qc i (Ai N · b.Undo ·) J J J fun T i=>la J ?_
    cases i
    exact ku K
   ·refine arr 4 [] J ?_
    cases i
    exact ku K
  refine la J<|en ?_
  exact rt q h
 refine att 5 [] J ?_
 refine ch h J ?_ ?_ <;> intro h
 ·refine atr 3 [5] J<|qd h (rm N · b C ·) J J J fun U h=>la J ?_
  obtain⟨L,m,h⟩:=bs h
  refine WL.cutN 4 [(64,.bool L),(1,pQ c)] ?_ (fun K=>?_)
  rotate_left
  ·refine sp 60 m J (fun m=>?_) fun m=>?_
   ·refine arr 2 [3,0] J<|ly J J<|qc m (dE N · b.N 0 100000 ·) J J J fun V m=>la J ?_
    cases m
    exact ku K
   ·refine arr 4 [] J ?_
    cases m
    exact ku K
  refine la J ?_
  obtain⟨M,z,h⟩:=bs h
  refine WL.cutN 4 [(69,.bool M)] ?_ (fun K=>?_)
  rotate_left
  ·refine sp 65 z J (fun z=>?_) fun z=>?_
   ·refine arr 4 [4,0] J ?_
    cases z
    exact ku K
   ·refine arr 4 [] J ?_
    cases z
    exact ku K
  refine la J<|en ?_
  exact rt q h
 refine att 6 [] J ?_
 refine cut (σ:=Bool) (fun s=>[(1,pQ c),(3,.bool t),(70,.bool s)]) (fun s=>St w0 a [(c,.cells #[iV b.Kind,.string b.Name,f,iV b.N,.string b.Undo] 213 (0,0))] []) (fun s=>lg N b t s=some r) (fun s hm=>?_) (fun K=>?_)
 ·clear h
  revert hm;revert s;intro s1 hm
  have h:lg N b t s1=some r:=hm
  show WT _ _ [(1,pQ c),(3,.bool t),(70,.bool s1)] (St w0 a [(c,.cells #[iV b.Kind,.string b.Name,f,iV b.N,.string b.Undo] 213 (0,0))] [])
  unfold lg at h
  refine ch h J ?_ ?_ <;> intro h
  ·refine atr 4 [] J ?_
   obtain⟨O,A,h⟩:=bs h
   refine WL.cutN 4 [(78,.bool O),(1,pQ c)] ?_ (fun K=>?_)
   rotate_left
   ·refine sp 74 A J (fun A=>?_) fun A=>?_
    ·refine arr 4 [3,0] J ?_
     cases A
     exact ku K
    ·refine arr 4 [] J ?_
     cases A
     exact ku K
   refine la J ?_
   obtain⟨P,B,h⟩:=bs h
   refine WL.cutN 4 [(83,.bool P)] ?_ (fun K=>?_)
   rotate_left
   ·refine sp 79 B J (fun B=>?_) fun B=>?_
    ·refine arr 4 [4,0] J ?_
     cases B
     exact ku K
    ·refine arr 4 [] J ?_
     cases B
     exact ku K
   refine la J<|en ?_
   exact rt q h
  refine att 6 [] J ?_
  exact rt q h
 refine ch h J ?_ ?_ <;> intro h
 ·refine WT.skip ?_
  exact wo [] [0] (K _ h)
 refine att 4 [] J ?_
 exact wo [] [0] (K _ h)
theorem oV (w0:aA e a []) (b:(List ByteArray)) (c:ByteArray) (d:RSl RS 1 e a1 g b) {r:Int} (h:dO N b c=some r) :
  CB w0 prog 216 [g,.string c] (iV r):=by
 refine eN func216 J ntmps216 J w0 fun i=>?_
 unfold dO at h
 refine atr 8 [] J<|lnr d J<|art 3 [] J ?_
 refine lin (σ:=Int) (fun s=>[(0,g),(1,.string c),(7,iV (b.length:Int)),(8,iV s)]) (fun s=>St w0 a [] []) (fun m s=>bF N b c m s=some r) (0) N h (sx [] []) (fun t u s hm=>?_)
 revert hm;revert s;intro s1 hm
 have h:bF N b c (t+1) s1=some r:=hm
 show WT _ _ [(0,g),(1,.string c),(7,iV (b.length:Int)),(8,iV s1)] (St w0 a [] [])
 unfold bF at h
 refine att 5 [] J ?_
 refine ch h J ?_ ?_ <;> intro h
 ·refine atr 13 [] J ?_
  obtain⟨w,q,h⟩:=bs h
  obtain⟨x,y,-,g1,z,A,v⟩:=d.el (a8 q).2.2
  obtain⟨rfl,-⟩:=v
  refine lia d q J<|lhx 0 0 g1 J<|la J<|en ?_
  refine ch h J ?_ ?_ <;> intro h
  ·refine att 5 [] J ?_
   exact rt i h
  refine att 6 [] J ?_
  exact lb [] [] (u _ h)
 refine att 5 [] J ?_
 exact rt i h
theorem je (w0:aA e a []) (b:(List ByteArray)) (c:ByteArray) (d:RSl RS 1 e a1 g b) {r:Bool} (h:cJ N b c=some r) :
  CB w0 prog 168 [g,.string c] (.bool r):=by
 refine eN func168 J ntmps168 J w0 fun i=>?_
 unfold cJ at h
 refine atr 8 [] J<|qd h (oV N · b c d ·) J J J fun m h=>art 3 [] J ?_
 exact rt i h
theorem yt (w0:aA e a [ob g].flatten) (i:(List ByteArray)) (b:ByteArray) (d:OSl RS 9 1 a [] g i) {r:(List ByteArray)} (h:oJ N i b=some r) :
  Calls prog 239 [g,.string b].toArray w0.w (bc a w0.w [ob g].flatten (fun s Fs v=>∃ (m:Value),v=m∧Fs=[ob m]∧OSl RS 9 1 s [] m r)):=by
 refine eL func239 J ntmps239 J (L:=[ob g]) w0 (fun q=>?_)
 unfold oJ at h
 refine atr 9 [] J<|qc h (je N · i b d.rsl ·) J J J fun A h=>en ?_
 refine ch h J ?_ ?_ <;> intro h
 ·refine att 5 [] J ?_
  exact rtg [0] q (aC.one J) J (by cases h;exact fun t hw=>⟨g,rfl,rfl,d⟩)
 refine atr 5 [] J ?_
 have u:RC RS 1 a ([[]]:List (List Nat)) [.string b] ([b]:List ByteArray):=RC.cons (c:=[.string b]) (cells:=[]) ⟨J,J⟩ J (RC.nil _ _ _)
 refine le' (bv (vs:=[(0,.string b)]) (C:=#[.string b]) RS.lasts jN vv J J J J (ao E7 (aa (C':=[.string b]) J J J J J (ae))) J u J (by simpa using Kw.nil)) J ?_
 rintro v1 w B ⟨x,h1⟩
 replace h1:OSl RS 9 1 w [] v1 ([b]:List ByteArray):=by simpa using h1
 replace d:=d.f0 x
 obtain⟨D,y,h⟩:=bs h
 refine le' (cG RS.lasts RS.one RS.flat jN My J J J J J (js:=[1]) (Rr:=[ob v1]) J d h1.rsl y) J ?_
 rintro v2 E F ⟨⟨G,H⟩,z⟩
 refine la J<|en ?_
 exact rtg [0] q (aC.one J) J (by cases h;exact fun t hw=>⟨v2,rfl,rfl,z⟩)
theorem qI (w0:aA e a [ob g].flatten) (i:(List ByteArray)) (c:(List bZ)) (y:OSl RS 9 1 a [] g i) (t:RSl f8 5 e ai n c) {r:(List ByteArray)} (h:kW N i c=some r) :
  Calls prog 215 [g,n].toArray w0.w (bc a w0.w [ob g].flatten (fun A Fs v=>∃ (u:Value),v=u∧Fs=[ob u]∧OSl RS 9 1 A [] u r)):=by
 refine eL func215 J ntmps215 J (L:=[ob g]) w0 (fun B=>?_)
 unfold kW at h
 refine atr 8 [] J<|lnr t J<|art 3 [] J ?_
 refine lin (σ:=Hp × (List ByteArray) × Value × Int) (fun s=>[(0,s.2.2.1),(7,n),(8,iV (c.length:Int)),(9,iV s.2.2.2)]) (fun s=>St w0 s.1 [] [ob s.2.2.1]) (fun m s=>fV N c m s.2.1 s.2.2.2=some r∧(OSl RS 9 1 s.1 [] s.2.2.1 s.2.1)) (a,i,g,0) N ⟨h,y⟩ (sx [0] []) (fun F w s hm=>?_)
 obtain⟨G,s1,C,s2⟩:=s
 obtain⟨h,d⟩:=hm
 dsimp only at h d ⊢
 unfold fV at h
 refine att 5 [] J ?_
 refine ch h J ?_ ?_ <;> intro h
 ·refine atr 5 [] J ?_
  obtain⟨D,x,h⟩:=bs h
  obtain⟨H,I,-,g1,K,M,E⟩:=t.el (a8 x).2.2
  obtain⟨rfl,-⟩:=E
  refine lia t x J<|lhx 0 5 g1 J<|lnz kt J fun O=>soN 0 jo J ⟨J,J,J,J,J,trivial⟩ J ?_
  refine art 7 [0,0] J ?_
  refine ch h J ?_ ?_ <;> intro h
  ·refine atr 4 [1,0] J<|kcb [0] h J J J J (fun b ap z q=>yt N b s1 D.S d q) ?_
   rintro P h v1 Q R ⟨S,T,v2,rfl,rfl,h1⟩
   refine art 7 [] J ?_
   exact lb [0] [] (w (_,_,_,_) ⟨h,h1⟩)
  refine att 6 [] J ?_
  exact lb [0] [] (w (_,_,_,_) ⟨h,d⟩)
 refine att 6 [] J ?_
 exact rtg [0] B (aC.one J) J (by cases h;exact fun U hw=>⟨C,rfl,rfl,d⟩)
theorem zi (w0:aA e a []) (c:ah) (i:RSl cI 3 e l f c.Pats) (G:RSl bT 11 e o k c.Conds) (H:RSl fm 5 e p j c.Acts) {r:(List ByteArray)} (h:mz N c=some r) :
  Calls prog 166 [.agg [.string c.Name,iV c.Sal,f,k,j].toArray].toArray w0.w (bc a w0.w [] (fun x Fs v=>∃ (t:Value),v=t∧Fs=[ob t]∧OSl RS 9 1 x [] t r)):=by
 refine eN func166 J ntmps166 J w0 fun y=>?_
 unfold mz at h
 refine sr<|lbx J fun I=>arr 11 [2,0] J<|lnr i J<|art 3 [] J<|wtS ?_
 have A:=OSl.nil RS 9 1 a
 refine lin (σ:=Hp × (List ByteArray) × Value × Int) (fun s=>[(3,s.2.2.1),(7,f),(8,iV (c.Pats.length:Int)),(9,iV s.2.2.2)]) (fun s=>St w0 s.1 [] [ob s.2.2.1]) (fun m s=>gl N c m s.2.1 s.2.2.2=some r∧(OSl RS 9 1 s.1 [] s.2.2.1 s.2.1)) (a,([]:List ByteArray),(.slice none 0 0),0) N ⟨h,A⟩ (sx [0] []) (fun K u s hm=>?_)
 obtain⟨L,s1,B,s2⟩:=s
 obtain⟨h,d⟩:=hm
 dsimp only at h d ⊢
 unfold gl at h
 refine att 5 [] J ?_
 refine ch h J ?_ ?_ <;> intro h
 ·refine atr 5 [] J ?_
  obtain⟨C,w,h⟩:=bs h
  obtain⟨M,O,-,g1,P,Q,D⟩:=i.el (a8 w).2.2
  obtain⟨v1,R,rfl,E,h1⟩:=D
  obtain rfl:=E.symm
  refine lia i w J<|lhx 0 3 g1 J<|lnz mg J fun S=>soN 0 pO J ⟨J,h1.one,J,trivial⟩ J ?_
  refine art 7 [2,0] J ?_
  refine ch h J ?_ ?_ <;> intro h
  ·refine atr 4 [1,0] J<|kcb [0] h J J J J (fun b ap z q=>qI N b s1 C.Args d (h1.y z) q) ?_
   rintro T h v2 U V ⟨W,X,v3,rfl,rfl,F⟩
   refine art 7 [] J ?_
   exact lb [0] [] (u (_,_,_,_) ⟨h,F⟩)
  refine att 6 [] J ?_
  exact lb [0] [] (u (_,_,_,_) ⟨h,d⟩)
 refine att 6 [] J ?_
 exact rtg [0] y (aC.one J) J (by cases h;exact fun Y hw=>⟨B,rfl,rfl,d⟩)
theorem xO (w0:aA e a []) (t:ah) (aq:RSl cI 3 e l f t.Pats) (y:RSl bT 11 e o k t.Conds) (A:RSl fm 5 e p j t.Acts) {r:(List ByteArray)} (h:nj N t=some r) :
  Calls prog 167 [.agg [.string t.Name,iV t.Sal,f,k,j].toArray].toArray w0.w (bc a w0.w [] (fun P Fs v=>∃ (B:Value),v=B∧Fs=[ob B]∧OSl RS 9 1 P [] B r)):=by
 refine eN func167 J ntmps167 J w0 fun Q=>?_
 unfold nj at h
 refine sr<|lbx J fun F=>arr 11 [3,0] J<|lnr y J<|art 3 [] J<|wtS ?_
 have R:=OSl.nil RS 9 1 a
 refine lin (σ:=Hp × (List ByteArray) × Value × Int) (fun s=>[(1,pQ F),(3,s.2.2.1),(11,k),(12,iV (t.Conds.length:Int)),(13,iV s.2.2.2)]) (fun s=>St w0 s.1 [(F,.cells #[.string t.Name,iV t.Sal,f,k,j] 87 (0,0))] [ob s.2.2.1]) (fun m s=>gA N t m s.2.1 s.2.2.2=some r∧(OSl RS 9 1 s.1 [] s.2.2.1 s.2.1)) (a,([]:List ByteArray),(.slice none 0 0),0) N ⟨h,R⟩ (sx [0] [0]) (fun n1 S s hm=>?_)
 obtain⟨G,s1,T,s2⟩:=s
 obtain⟨h,u⟩:=hm
 dsimp only at h u ⊢
 unfold gA at h
 refine att 5 [] J ?_
 refine ch h J ?_ ?_ <;> intro h
 ·refine atr 5 [] J ?_
  obtain⟨d,H,h⟩:=bs h
  obtain⟨ar,F1,-,g1,au,av,U⟩:=y.el (a8 H).2.2
  obtain⟨rfl,-⟩:=U
  refine lia y H J<|lhx 0 11 g1 J<|lnz vg J fun aw=>soN 0 zu J ⟨J,J,J,J,J,J,J,J,J,J,J,trivial⟩ J ?_
  refine arr 7 [1,5,6,5] J ?_
  have V:RC f8 5 G ([[],[]]:List (List Nat)) [iV d.L.K,.string d.L.S,iV d.L.V.K,iV d.L.V.N,.string d.L.V.S,iV d.R.K,.string d.R.S,iV d.R.V.K,iV d.R.V.N,.string d.R.V.S] ([d.L,d.R]:List bZ):=RC.cons (c:=[iV d.L.K,.string d.L.S,iV d.L.V.K,iV d.L.V.N,.string d.L.V.S]) (cells:=[iV d.R.K,.string d.R.S,iV d.R.V.K,iV d.R.V.N,.string d.R.V.S]) ⟨J,J⟩ J (RC.cons (c:=[iV d.R.K,.string d.R.S,iV d.R.V.K,iV d.R.V.N,.string d.R.V.S]) (cells:=[]) ⟨J,J⟩ J (RC.nil _ _ _))
  refine le' (bv (vs:=[(0,.agg [iV d.L.K,.string d.L.S,iV d.L.V.K,iV d.L.V.N,.string d.L.V.S].toArray),(1,.agg [iV d.R.K,.string d.R.S,iV d.R.V.K,iV d.R.V.N,.string d.R.V.S].toArray)]) (C:=#[iV d.L.K,.string d.L.S,iV d.L.V.K,iV d.L.V.N,.string d.L.V.S,iV d.R.K,.string d.R.S,iV d.R.V.K,iV d.R.V.N,.string d.R.V.S]) f8.lasts zH kt J J J J (ao Cj (aa (C':=[iV d.L.K,.string d.L.S,iV d.L.V.K,iV d.L.V.N,.string d.L.V.S,iV 0,.string ⟨#[]⟩,iV 0,iV 0,.string ⟨#[]⟩]) J J J J J (aa (C':=[iV d.L.K,.string d.L.S,iV d.L.V.K,iV d.L.V.N,.string d.L.V.S,iV d.R.K,.string d.R.S,iV d.R.V.K,iV d.R.V.N,.string d.R.V.S]) J J J J J (ae)))) J V J (by simpa using Kw.nil)) J ?_
  rintro v1 W D1 ⟨X,h1⟩
  replace h1:OSl f8 171 5 W [] v1 ([d.L,d.R]:List bZ):=by simpa using h1
  replace u:=u.f0 X
  refine kcb [1] h J J J J (fun b ap z q=>qI N b s1 ([d.L,d.R]:List bZ) u (h1.rsl.x (Dj.app (ap.q 0 J) dN)) q) ?_
  rintro x2 h v2 ax F2 ⟨ay,az,v3,rfl,rfl,Y⟩
  refine art 7 [] J ?_
  exact lb [0] [1] (S (_,_,_,_) ⟨h,Y⟩)
 refine atr 6 [4,0] J<|lnr A J<|art 3 [] J ?_
 refine lin (σ:=Hp × (List ByteArray) × Value × Int) (fun s=>[(3,s.2.2.1),(26,j),(27,iV (t.Acts.length:Int)),(28,iV s.2.2.2)]) (fun s=>St w0 s.1 [] [ob s.2.2.1]) (fun m s=>dM N t m s.2.1 s.2.2.2=some r∧(OSl RS 9 1 s.1 [] s.2.2.1 s.2.1)) (G,s1,T,0) N ⟨h,u⟩ (sx [0] []) (fun Z a7 s hm=>?_)
 obtain⟨ab,s3,I,K⟩:=s
 obtain⟨h,D⟩:=hm
 dsimp only at h D ⊢
 unfold dM at h
 refine att 5 [] J ?_
 refine ch h J ?_ ?_ <;> intro h
 ·refine atr 5 [] J ?_
  obtain⟨L,M,h⟩:=bs h
  obtain⟨aB,F3,-,g2,aD,aE,r2⟩:=A.el (a8 M).2.2
  obtain⟨v4,G1,rfl,af,x⟩:=r2
  obtain rfl:=af.symm
  refine lia A M J<|lhx 0 5 g2 J<|lnz ve J fun aF=>soN 0 vq J ⟨J,J,x.one,J,J,trivial⟩ J ?_
  refine arr 5 [2,0] J<|lnr x J<|art 3 [] J ?_
  refine lin (σ:=Hp × (List ByteArray) × Value × Int) (fun s=>[(3,s.2.2.1),(26,j),(27,iV (t.Acts.length:Int)),(28,iV K),(33,v4),(34,iV (L.Args.length:Int)),(35,iV s.2.2.2)]) (fun s=>St w0 s.1 [] [ob s.2.2.1]) (fun m s=>ff N K (dM N t Z) L m s.2.1 s.2.2.2=some r∧(OSl RS 9 1 s.1 [] s.2.2.1 s.2.1)) (ab,s3,I,0) N ⟨h,D⟩ (sx [0] []) (fun n3 ag s hm=>?_)
  obtain⟨aj,s5,u3,s6⟩:=s
  obtain⟨h,w⟩:=hm
  dsimp only at h w ⊢
  unfold ff at h
  refine att 5 [] J ?_
  refine ch h J ?_ ?_ <;> intro h
  ·refine atr 5 [] J ?_
   obtain⟨i,O,h⟩:=bs h
   obtain⟨aG,F4,-,g3,aH,aI,r3⟩:=x.el (a8 O).2.2
   obtain⟨rfl,-⟩:=r3
   refine lia x O J<|lhx 0 11 g3 J<|lnz wM J fun aJ=>soN 0 BS J ⟨J,J,J,J,J,J,J,J,J,J,J,trivial⟩ J ?_
   refine arr 7 [1,5,6,5] J ?_
   have ak:RC f8 5 aj ([[],[]]:List (List Nat)) [iV i.L.K,.string i.L.S,iV i.L.V.K,iV i.L.V.N,.string i.L.V.S,iV i.R.K,.string i.R.S,iV i.R.V.K,iV i.R.V.N,.string i.R.V.S] ([i.L,i.R]:List bZ):=RC.cons (c:=[iV i.L.K,.string i.L.S,iV i.L.V.K,iV i.L.V.N,.string i.L.V.S]) (cells:=[iV i.R.K,.string i.R.S,iV i.R.V.K,iV i.R.V.N,.string i.R.V.S]) ⟨J,J⟩ J (RC.cons (c:=[iV i.R.K,.string i.R.S,iV i.R.V.K,iV i.R.V.N,.string i.R.V.S]) (cells:=[]) ⟨J,J⟩ J (RC.nil _ _ _))
   refine le' (bv (vs:=[(0,.agg [iV i.L.K,.string i.L.S,iV i.L.V.K,iV i.L.V.N,.string i.L.V.S].toArray),(1,.agg [iV i.R.K,.string i.R.S,iV i.R.V.K,iV i.R.V.N,.string i.R.V.S].toArray)]) (C:=#[iV i.L.K,.string i.L.S,iV i.L.V.K,iV i.L.V.N,.string i.L.V.S,iV i.R.K,.string i.R.S,iV i.R.V.K,iV i.R.V.N,.string i.R.V.S]) f8.lasts zH kt J J J J (ao Cj (aa (C':=[iV i.L.K,.string i.L.S,iV i.L.V.K,iV i.L.V.N,.string i.L.V.S,iV 0,.string ⟨#[]⟩,iV 0,iV 0,.string ⟨#[]⟩]) J J J J J (aa (C':=[iV i.L.K,.string i.L.S,iV i.L.V.K,iV i.L.V.N,.string i.L.V.S,iV i.R.K,.string i.R.S,iV i.R.V.K,iV i.R.V.N,.string i.R.V.S]) J J J J J (ae)))) J ak J (by simpa using Kw.nil)) J ?_
   rintro v5 al D2 ⟨an,E⟩
   replace E:OSl f8 171 5 al [] v5 ([i.L,i.R]:List bZ):=by simpa using E
   replace w:=w.f0 an
   refine kcb [1] h J J J J (fun b ap z q=>qI N b s5 ([i.L,i.R]:List bZ) w (E.rsl.x (Dj.app (ap.q 0 J) dN)) q) ?_
   rintro x5 h v6 aK F5 ⟨aL,aM,v7,rfl,rfl,h5⟩
   refine art 7 [] J ?_
   exact lb [0] [] (ag (_,_,_,_) ⟨h,h5⟩)
  refine att 6 [] J ?_
  exact lb [0] [] (a7 (_,_,_,_) ⟨h,w⟩)
 refine att 6 [] J ?_
 exact rtg [0] Q (aC.one J) J (by cases h;exact fun w1 hw=>⟨I,rfl,rfl,D⟩)
theorem zK (w0:aA e a []) (c:ah) (E:RSl cI 3 e l f c.Pats) (u:RSl bT 11 e o k c.Conds) (v:RSl fm 5 e p j c.Acts) {r:Bool} (h:qf N c=some r) :
  CB w0 prog 98 [.agg [.string c.Name,iV c.Sal,f,k,j].toArray] (.bool r):=by
 refine eN func98 J ntmps98 J w0 fun C=>?_
 unfold qf at h
 refine sr<|lbx J fun t=>arr 7 [0,0] J<|qc h (jW N · c.Name ·) J J J fun x1 h=>arr 2 [] J ?_
 obtain⟨U,y,h⟩:=bs h
 refine WL.cutN 5 [(19,.bool U),(1,pQ t)] ?_ (fun K=>?_)
 rotate_left
 ·refine sp 14 y J (fun y=>?_) fun y=>?_
  ·refine arr 5 [] J ?_
   cases y
   exact ku K
  ·refine arr 2 [1,0] J<|ly J J<|qc y (dE N · c.Sal (-100) 100 ·) J J J fun x2 y=>arr 2 [] J ?_
   cases y
   exact ku K
 refine la J ?_
 obtain⟨V,A,h⟩:=bs h
 refine WL.cutN 4 [(24,.bool V),(1,pQ t)] ?_ (fun K=>?_)
 rotate_left
 ·refine sp 20 A J (fun A=>?_) fun A=>?_
  ·refine arr 4 [] J ?_
   cases A
   exact ku K
  ·refine ly J J<|ld5 rL 0 J<|ly J J<|qd A (zU N · c E u v ·) J J J fun x3 A=>arr 2 [] J ?_
   cases A
   exact ku K
 refine en ?_
 refine ch h J ?_ ?_ <;> intro h
 ·refine att 4 [] J ?_
  exact rt C h
 refine atr 6 [3,0] J<|lnr u J<|arr 2 [] J ?_
 obtain⟨W,B,h⟩:=bs h
 refine WL.cutN 6 [(35,.bool W),(1,pQ t)] ?_ (fun K=>?_)
 rotate_left
 ·refine sp 29 B J (fun B=>?_) fun B=>?_
  ·refine arr 6 [] J ?_
   cases B
   exact ku K
  ·refine arr 2 [4,0] J<|ly J J<|lnr v J<|ly J J<|qc B (dE N · (c.Acts.length:Int) 1 6 ·) J J J fun x4 B=>arr 2 [] J ?_
   cases B
   exact ku K
 refine en ?_
 refine ch h J ?_ ?_ <;> intro h
 ·refine att 4 [] J ?_
  exact rt C h
 refine atr 6 [3,0] J<|lnr u J<|art 3 [] J ?_
 refine lin (σ:=Int) (fun s=>[(1,pQ t),(37,k),(38,iV (c.Conds.length:Int)),(39,iV s)]) (fun s=>St w0 a [(t,.cells #[.string c.Name,iV c.Sal,f,k,j] 87 (0,0))] []) (fun m s=>fy N c m s=some r) (0) N h (sx [] [0]) (fun X Y s hm=>?_)
 revert hm;revert s;intro s1 hm
 have h:fy N c (X+1) s1=some r:=hm
 show WT _ _ [(1,pQ t),(37,k),(38,iV (c.Conds.length:Int)),(39,iV s1)] (St w0 a [(t,.cells #[.string c.Name,iV c.Sal,f,k,j] 87 (0,0))] [])
 unfold fy at h
 refine att 5 [] J ?_
 refine ch h J ?_ ?_ <;> intro h
 ·refine atr 5 [] J ?_
  obtain⟨Z,O,h⟩:=bs h
  obtain⟨al,F1,-,g1,an,ao,r1⟩:=u.el (a8 O).2.2
  obtain⟨rfl,-⟩:=r1
  refine lia u O J<|lhx 0 11 g1 J<|lnz vg J fun aq=>soN 0 zu J ⟨J,J,J,J,J,J,J,J,J,J,J,trivial⟩ J ?_
  refine arr 4 [11] J<|qc h (zO N · Z ·) J J J fun x6 h=>la J<|en ?_
  refine ch h J ?_ ?_ <;> intro h
  ·refine att 4 [] J ?_
   exact rt C h
  refine att 6 [] J ?_
  exact lb [] [1] (Y _ h)
 refine atr 6 [4,0] J<|lnr v J<|art 3 [] J ?_
 refine lin (σ:=Int) (fun s=>[(1,pQ t),(48,j),(49,iV (c.Acts.length:Int)),(50,iV s)]) (fun s=>St w0 a [(t,.cells #[.string c.Name,iV c.Sal,f,k,j] 87 (0,0))] []) (fun m s=>fG N c m s=some r) (0) N h (sx [] [0]) (fun n2 a7 s hm=>?_)
 revert hm;revert s;intro s2 hm
 have h:fG N c (n2+1) s2=some r:=hm
 show WT _ _ [(1,pQ t),(48,j),(49,iV (c.Acts.length:Int)),(50,iV s2)] (St w0 a [(t,.cells #[.string c.Name,iV c.Sal,f,k,j] 87 (0,0))] [])
 unfold fG at h
 refine att 5 [] J ?_
 refine ch h J ?_ ?_ <;> intro h
 ·refine atr 5 [] J ?_
  obtain⟨D,P,h⟩:=bs h
  obtain⟨ar,F2,-,g2,au,av,r2⟩:=v.el (a8 P).2.2
  obtain⟨v1,G1,rfl,aa,h1⟩:=r2
  obtain rfl:=aa.symm
  refine lia v P J<|lhx 0 5 g2 J<|lnz ve J fun aw=>soN 0 vq J ⟨J,J,h1.one,J,J,trivial⟩ J ?_
  refine en<|sq<|WT.draw mixed OX (fun _ h=>h.drew)<|qq (ay C2 J (fun Q hw=>hw.rgO (i:=0) J 0 5 [iV D.Kind,.string D.Name,v1,iV D.N,.string D.Undo] J) J) J ?_
  obtain⟨x8,ab,h⟩:=bs h
  refine qp (fj JY J (fun Q hw=>BM N (ba hw.in0) D h1 ab)) J<|aqq 2 [] J ?_
  obtain⟨b4,w,h⟩:=bs h
  refine WQ.cutN 11 [(68,.bool b4),(1,pQ t),(48,j),(49,iV (c.Acts.length:Int)),(50,iV s2)] ?_ (fun K=>?_)
  rotate_left
  ·refine WQ.split (d:=57) J (fun G=>?_) (fun G=>?_)
   ·replace w:=iE w G
    refine aqq 11 [] J ?_
    cases w
    exact kq K
   ·replace w:=iF w G
    refine aqq 4 [0,0] J ?_
    obtain⟨b5,x,w⟩:=bs w
    refine WQ.cutN 6 [(67,.bool b5),(1,pQ t),(48,j),(49,iV (c.Acts.length:Int)),(50,iV s2),(57,.bool false)] ?_ (fun K=>?_)
    rotate_left
    ·refine WQ.split (d:=61) J (fun H=>?_) (fun H=>?_)
     ·replace x:=iE x H
      refine aqq 3 [3,0,37] J<|WQ.yes J J ?_
      obtain⟨x9,ae,x⟩:=bs x
      refine qp (fj EC J (fun Q hw=>oX N (ba hw.in0) c E u v ae)) J<|aqq 2 [] J ?_
      cases x
      exact kq K
     ·replace x:=iF x H
      refine aqq 6 [] J ?_
      cases x
      exact kq K
    refine WQ.q (rc J J) J J J ?_
    cases w
    exact kq K
  refine WQ.nil ?_
  refine ch h J ?_ ?_ <;> intro h
  ·refine att 4 [] J ?_
   exact rt C h
  refine att 6 [] J ?_
  exact lb [] [1] (a7 _ h)
 refine atr 4 [5] J<|kab h J J J (fun b z q=>zi N b c (E.y z) (u.y z) (v.y z) q) ?_
 rintro I h v2 ax F3 ⟨az,aB,v3,rfl,rfl,L⟩
 refine arr 6 [5] J<|kab h J J J (fun b z q=>xO N b c (E.y z) (u.y z) (v.y z) q) ?_
 rintro F h v4 R F4 ⟨af,ag,v5,rfl,rfl,M⟩
 replace L:=L.fr ag (af.q 0 J) dN
 refine lno M J<|art 3 [] J ?_
 refine lin (σ:=Int) (fun s=>[(7,v2),(73,v4),(74,iV (F.length:Int)),(75,iV s)]) (fun s=>St w0 R [] [ob v4,ob v2]) (fun m s=>fE N I F m s=some r) (0) N h (sx [0,0] []) (fun n3 aj s hm=>?_)
 revert hm;revert s;intro S hm
 have h:fE N I F (n3+1) S=some r:=hm
 show WT _ _ [(7,v2),(73,v4),(74,iV (F.length:Int)),(75,iV S)] (St w0 R [] [ob v4,ob v2])
 unfold fE at h
 refine att 5 [] J ?_
 refine ch h J ?_ ?_ <;> intro h
 ·refine atr 5 [] J ?_
  obtain⟨ak,T,h⟩:=bs h
  obtain⟨aC,F5,-,g3,aD,aE,r3⟩:=M.elS (a8 T).2.2
  obtain⟨rfl,-⟩:=r3
  refine lio M T J<|lgx 0 0 g3 J<|arr 6 [] J<|qc h (je N · I ak L.rsl ·) J J J fun aF h=>la J<|en ?_
  refine ch h J ?_ ?_ <;> intro h
  ·refine att 4 [] J ?_
   exact rt C h
  refine att 6 [] J ?_
  exact lb [0,0] [] (aj _ h)
 refine att 5 [] J ?_
 exact rt C h
theorem ni {d:Nat} {q:List Value} (w0:aA e a []) (b:(List ah)) (t:ah→Option (Bool)) (u:RSl eC 5 e a1 g b) (A:Fun prog d=true) (B:∀ {i:Hp} {w':World},FrH [] a i→In i w'→∀ (c:ah) {v:Value} {C:List Nat} {w:Value} {D:List Nat} {x:Value} {E:List Nat} (_:RSl cI 3 i C v c.Pats) (_:RSl bT 11 i D w c.Conds) (_:RSl fm 5 i E x c.Acts) {r:Bool},t c=some r→Calls prog d (([.agg [.string c.Name,iV c.Sal,v,w,x].toArray]:List Value)++q).toArray w' (mM (.bool r) w')) {r:Int} (h:dT N b t=some r) :
  CB w0 prog 169 [g,.func (.func d) #[] q.toArray] (iV r):=by
 refine eN func169 J ntmps169 J w0 fun y=>?_
 unfold dT at h
 refine atr 8 [] J<|lnr u J<|art 3 [] J ?_
 refine lin (σ:=Int) (fun s=>[(0,g),(1,.func (.func d) #[] q.toArray),(7,iV (b.length:Int)),(8,iV s)]) (fun s=>St w0 a [] []) (fun m s=>bh N b t m s=some r) (0) N h (sx [] []) (fun F G s hm=>?_)
 revert hm;revert s;intro s1 hm
 have h:bh N b t (F+1) s1=some r:=hm
 show WT _ _ [(0,g),(1,.func (.func d) #[] q.toArray),(7,iV (b.length:Int)),(8,iV s1)] (St w0 a [] [])
 unfold bh at h
 refine att 5 [] J ?_
 refine ch h J ?_ ?_ <;> intro h
 ·refine atr 13 [] J ?_
  obtain⟨H,z,h⟩:=bs h
  obtain⟨O,P,-,g1,Q,R,I⟩:=u.el (a8 z).2.2
  obtain⟨v1,S,v2,T,v3,U,rfl,rfl,h1,K,L⟩:=I
  refine lia u z J<|lhx 0 5 g1 J ?_
  obtain⟨V,M,h⟩:=bs h
  refine lp (m3 A J J (fun W hw=>B hw.frB hw.fro H (h1.y hw.up) (K.y hw.up) (L.y hw.up) M)) J<|en ?_
  refine ch h J ?_ ?_ <;> intro h
  ·refine att 5 [] J ?_
   exact rt y h
  refine att 6 [] J ?_
  exact lb [] [] (G _ h)
 refine att 5 [] J ?_
 exact rt y h
theorem xg (w0:aA e a []) (b:ah) (c:ByteArray) (m:RSl cI 3 e l f b.Pats) (q:RSl bT 11 e o k b.Conds) (s:RSl fm 5 e p j b.Acts) (d:e ad=some (.cells #[.string c] 9 (0,0))) {r:Bool} (h:jZ N b c=some r) :
  CB w0 prog 170 [.agg [.string b.Name,iV b.Sal,f,k,j].toArray,pQ ad] (.bool r):=by
 refine eN func170 J ntmps170 J w0 fun i=>?_
 unfold jZ at h
 refine sr<|lbx J fun t=>arr 6 [0,0] J<|lhx 0 0 (cC d) J<|art 3 [] J ?_
 exact rt i h
theorem zY (w0:aA e a []) (c:bq) (d:ByteArray) (i:RSl eC 5 e l f c.Rules) {r:Int} (h:qS N c d=some r) :
  CB w0 prog 99 [.agg [.string c.Name,f].toArray,.string d] (iV r):=by
 refine eN func99 J ntmps99 J w0 fun m=>?_
 unfold qS at h
 refine sr<|lbx J fun s=>?_
 refine ln (xy (C:=#[.string d]) J (J)) J (fun x=>?_)
 refine arr 6 [1,32] J ?_
 refine WL.frz (js:=[0]) (R:=[(s,.cells #[.string c.Name,f] 26 (0,0))]) J (fun y A t=>?_)
 refine lq (DM J) J<|qz h (fun b z q=>ni N b c.Rules (fun a0=>jZ N a0 d) (i.y z) Km (fun u v a0=>fun f0 f1 f2=>fun w=>xg N (ba v) a0 d f0 f1 f2 (u _ _ OZ t) w) q) J J J fun B h=>la J<|en ?_
 exact rt m h
theorem sL (w0:aA e a []) (b:bq) (q:RSl eC 5 e l f b.Rules) {r:Bool} (h:nS N b=some r) :
  CB w0 prog 40 [.agg [.string b.Name,f].toArray] (.bool r):=by
 refine eN func40 J ntmps40 J w0 fun t=>?_
 unfold nS at h
 refine sr<|lbx J fun i=>arr 7 [0,0] J<|qc h (jW N · b.Name ·) J J J fun D h=>arr 2 [] J ?_
 obtain⟨y,c,h⟩:=bs h
 refine WL.cutN 6 [(15,.bool y),(1,pQ i)] ?_ (fun K=>?_)
 rotate_left
 ·refine sp 9 c J (fun c=>?_) fun c=>?_
  ·refine arr 6 [] J ?_
   cases c
   exact ku K
  ·refine arr 2 [1,0] J<|ly J J<|lnr q J<|ly J J<|qc c (dE N · (b.Rules.length:Int) 1 12 ·) J J J fun E c=>arr 2 [] J ?_
   cases c
   exact ku K
 refine en ?_
 refine ch h J ?_ ?_ <;> intro h
 ·refine att 4 [] J ?_
  exact rt t h
 refine atr 6 [1,0] J<|lnr q J<|art 3 [] J ?_
 refine lin (σ:=Int) (fun s=>[(1,pQ i),(17,f),(18,iV (b.Rules.length:Int)),(19,iV s)]) (fun s=>St w0 a [(i,.cells #[.string b.Name,f] 26 (0,0))] []) (fun m s=>gQ N b m s=some r) (0) N h (sx [] [0]) (fun z A s hm=>?_)
 revert hm;revert s;intro s1 hm
 have h:gQ N b (z+1) s1=some r:=hm
 show WT _ _ [(1,pQ i),(17,f),(18,iV (b.Rules.length:Int)),(19,iV s1)] (St w0 a [(i,.cells #[.string b.Name,f] 26 (0,0))] [])
 unfold gQ at h
 refine att 5 [] J ?_
 refine ch h J ?_ ?_ <;> intro h
 ·refine atr 6 [] J ?_
  obtain⟨u,v,h⟩:=bs h
  obtain⟨F,G,-,g1,H,I,B⟩:=q.el (a8 v).2.2
  obtain⟨v1,L,v2,M,v3,O,rfl,rfl,h1,w,x⟩:=B
  refine lia q v J<|lhx 0 5 g1 J<|lnz wx J fun P=>la J<|soN 0 yK J ⟨J,J,h1.one,w.one,x.one,trivial⟩ J ?_
  refine arr 4 [5] J<|qd h (zK N · u h1 w x ·) J J J fun Q h=>arr 2 [] J ?_
  obtain⟨C,d,h⟩:=bs h
  refine WL.cutN 7 [(34,.bool C),(1,pQ i),(17,f),(18,iV (b.Rules.length:Int)),(19,iV s1)] ?_ (fun K=>?_)
  rotate_left
  ·refine sp 27 d J (fun d=>?_) fun d=>?_
   ·refine arr 7 [] J ?_
    cases d
    exact ku K
   ·refine arr 3 [34,0,0] J<|ly J J<|qd d (zY N · b u.Name q ·) J J J fun R d=>arr 3 [] J ?_
    cases d
    exact ku K
  refine en ?_
  refine ch h J ?_ ?_ <;> intro h
  ·refine att 4 [] J ?_
   exact rt t h
  refine att 6 [] J ?_
  exact lb [] [1] (A _ h)
 refine att 5 [] J ?_
 exact rt t h
theorem A2 (w0:aA e a []) (b:aL) (d:RSl aS 3 e l f b.Fields) {r:Bool} (h:qK N b=some r) :
  CB w0 prog 63 [.agg [.string b.Kind,f].toArray] (.bool r):=by
 refine eN func63 J ntmps63 J w0 fun i=>?_
 unfold qK at h
 refine sr<|lbx J fun t=>arr 7 [0,0] J<|qc h (jW N · b.Kind ·) J J J fun z h=>arr 2 [] J ?_
 obtain⟨u,c,h⟩:=bs h
 refine WL.cutN 5 [(14,.bool u),(1,pQ t)] ?_ (fun K=>?_)
 rotate_left
 ·refine sp 9 c J (fun c=>?_) fun c=>?_
  ·refine arr 5 [] J ?_
   cases c
   exact ku K
  ·refine arr 2 [1,0] J<|ly J J<|lnr d J<|arr 2 [] J ?_
   cases c
   exact ku K
 refine en ?_
 refine ch h J ?_ ?_ <;> intro h
 ·refine att 4 [] J ?_
  exact rt i h
 refine atr 6 [1,0] J<|lnr d J<|art 3 [] J ?_
 refine lin (σ:=Int) (fun s=>[(16,f),(17,iV (b.Fields.length:Int)),(18,iV s)]) (fun s=>St w0 a [] []) (fun m s=>fL N b m s=some r) (0) N h (sx [] []) (fun v w s hm=>?_)
 revert hm;revert s;intro s1 hm
 have h:fL N b (v+1) s1=some r:=hm
 show WT _ _ [(16,f),(17,iV (b.Fields.length:Int)),(18,iV s1)] (St w0 a [] [])
 unfold fL at h
 refine att 5 [] J ?_
 refine ch h J ?_ ?_ <;> intro h
 ·refine atr 5 [] J ?_
  obtain⟨x,q,h⟩:=bs h
  obtain⟨A,B,-,g1,C,D,y⟩:=d.el (a8 q).2.2
  obtain⟨rfl,-⟩:=y
  refine lia d q J<|lhx 0 3 g1 J<|lnz jg J fun E=>soN 0 mj J ⟨J,J,J,trivial⟩ J ?_
  refine arr 4 [3] J<|qc h (wk N · x ·) J J J fun F h=>la J<|en ?_
  refine ch h J ?_ ?_ <;> intro h
  ·refine att 4 [] J ?_
   exact rt i h
  refine att 6 [] J ?_
  exact lb [] [] (w _ h)
 refine att 5 [] J ?_
 exact rt i h
theorem kG (w0:aA e a []) (b:(List bn)) (c:(List bn)) (d:RSl aS 3 e a1 g b) (t:RSl aS 3 e ai n c) {r:Bool} (h:cE N b c=some r) :
  CB w0 prog 129 [g,n] (.bool r):=by
 refine eN func129 J ntmps129 J w0 fun u=>?_
 unfold cE at h
 refine atr 8 [] J<|lnr d J<|la J<|lnr t J<|la J<|en ?_
 refine ch h J ?_ ?_ <;> intro h
 ·refine att 4 [] J ?_
  exact rt u h
 refine atr 5 [] J<|lnr d J<|art 3 [] J ?_
 refine lin (σ:=Int) (fun s=>[(0,g),(1,n),(12,iV (b.length:Int)),(13,iV s)]) (fun s=>St w0 a [] []) (fun m s=>bC N b c m s=some r) (0) N h (sx [] []) (fun x y s hm=>?_)
 revert hm;revert s;intro s1 hm
 have h:bC N b c (x+1) s1=some r:=hm
 show WT _ _ [(0,g),(1,n),(12,iV (b.length:Int)),(13,iV s1)] (St w0 a [] [])
 unfold bC at h
 refine att 5 [] J ?_
 refine ch h J ?_ ?_ <;> intro h
 ·refine att 9 [] J<|WT.draw mixed OX (fun _ h=>h.drew)<|aqq 2 [] J ?_
  obtain⟨i,v,h⟩:=bs h
  obtain⟨C,D,-,g1,E,F,z⟩:=d.el (a8 v).2.2
  obtain⟨rfl,-⟩:=z
  refine qq (ak jq J J d v) J<|qq (ay kz J (fun A hw=>(g1.of_eq 0 3 J J:rg _ _ _ [iV i.K,iV i.N,.string i.S]).rangeAt hw.in0) J) J<|aqq 2 [] J ?_
  obtain⟨q,w,h⟩:=bs h
  obtain⟨G,H,-,g2,I,K,B⟩:=t.el (a8 w).2.2
  obtain⟨rfl,-⟩:=B
  refine qq (ak jq J J t w) J<|qq (ay kz J (fun A hw=>(g2.of_eq 0 3 J J:rg _ _ _ [iV q.K,iV q.N,.string q.S]).rangeAt hw.in0) J) J<|qq (u9 mi J J J (r:=bp i q) J) J<|WQ.nil ?_
  refine ch h J ?_ ?_ <;> intro h
  ·refine att 4 [] J ?_
   exact rt u h
  refine att 6 [] J ?_
  exact lb [] [] (y _ h)
 refine att 5 [] J ?_
 exact rt u h
theorem xF (w0:aA e a []) (c:aL) (d:aL) (i:RSl aS 3 e l f c.Fields) (m:RSl aS 3 e pG1_0 a6 d.Fields) {r:Bool} (h:np N c d=some r) :
  CB w0 prog 65 [.agg [.string c.Kind,f].toArray,.agg [.string d.Kind,a6].toArray] (.bool r):=by
 refine eN func65 J ntmps65 J w0 fun q=>?_
 unfold np at h
 refine sr<|lbx J fun t=>lbx J fun u=>arr 10 [0,32,0,0] J ?_
 obtain⟨s,b,h⟩:=bs h
 refine WL.cutN 6 [(16,.bool s),(4,.bool false)] ?_ (fun K=>?_)
 rotate_left
 ·refine sp 10 b J (fun b=>?_) fun b=>?_
  ·refine arr 4 [1,32,1,0] J<|ly J J<|qd b (kG N · c.Fields d.Fields i m ·) J J J fun v b=>la J ?_
   cases b
   exact ku K
  ·refine arr 6 [] J ?_
   cases b
   exact ku K
 refine la J<|en ?_
 exact rt q h
end Go.Proofs.YtedmfnmbjglmbaaGreat
