/- Printed by a program of ours: each Go function computes its Lean function. -/
import Derived.Test.YtedmfnmbjglmbaaGreatProg
import Derived.Test.YtedmfnmbjglmbaaGreatWSetsSort
import Derived.Test.YtedmfnmbjglmbaaGreatEP
namespace Go.Proofs.YtedmfnmbjglmbaaGreat
open Eng Tryz
open Go.RowKit (Below)
set_option linter.unusedVariables false
set_option linter.unusedSimpArgs false

set_option maxRecDepth 100000
set_option maxHeartbeats 1000000
theorem mixed:prog.follows .mixedOrders=true:=MA
theorem Bx:Sl prog 22 5 1=true:=MA
theorem ky:Str prog 9=true:=MA
theorem xx:Fld prog 87 2 2=true:=MA
theorem og:Sl prog 83 201 3=true:=MA
theorem sm:Tn prog 201 3=true:=MA
theorem jB:(prog.info? 201).map (·.zero)=some (some (.agg #[.string ⟨#[]⟩,.slice none 0 0,.bool false])):=MA
theorem o1:Sz prog 201 3=true:=MA
theorem kl:Fld prog 201 2 2=true:=MA
theorem rd:T1 prog 3=true:=MA
theorem JT:Fun prog 97=true:=MA
theorem Lb:T1 prog 9=true:=MA
theorem A8:Fld prog 171 0 0=true:=MA
theorem zB:Fld prog 171 1 1=true:=MA
theorem kM:Tn prog 95 3=true:=MA
theorem vc:Pl prog 95 #[(0,1),(1,1),(2,1)]=true:=MA
theorem jF:(prog.info? 95).map (·.zero)=some (some (.agg #[iV 0,iV 0,.string ⟨#[]⟩])):=MA
theorem mT:EqT prog 95 [.i .i64,.i .i64,.s]=true:=MA
theorem Ed:Fld prog 201 0 0=true:=MA
theorem nY:Sl prog 199 171 5=true:=MA
theorem mJ:Tn prog 171 5=true:=MA
theorem fS:(prog.info? 171).map (·.zero)=some (some (.agg #[iV 0,.string ⟨#[]⟩,iV 0,iV 0,.string ⟨#[]⟩])):=MA
theorem gL:Sz prog 171 5=true:=MA
theorem o7:Tn prog 87 5=true:=MA
theorem E0:Fun prog 165=true:=MA
theorem Hy:Fun prog 211=true:=MA
theorem Iz:Bo prog 4=true:=MA
theorem Ev:Fld prog 173 0 0=true:=MA
theorem vG:Fld prog 173 1 1=true:=MA
theorem w4:Fld prog 173 2 6=true:=MA
theorem A3:Fld prog 216 0 0=true:=MA
theorem vL:Fld prog 216 1 1=true:=MA
theorem tn:Fld prog 216 2 6=true:=MA
theorem sK:Pl prog 171 #[(0,1),(1,1),(2,3)]=true:=MA
theorem Dk:EqT prog 171 [.i .i64,.s,.i .i64,.i .i64,.s]=true:=MA
theorem A7:Fld prog 213 1 1=true:=MA
theorem mN:Fld prog 213 2 2=true:=MA
theorem Al:T1 prog 211=true:=MA
theorem sI:Sl prog 211 216 11=true:=MA
theorem Kd:Tn prog 216 11=true:=MA
theorem sP:(prog.info? 216).map (·.zero)=some (some (.agg #[.string ⟨#[]⟩,iV 0,.string ⟨#[]⟩,iV 0,iV 0,.string ⟨#[]⟩,iV 0,.string ⟨#[]⟩,iV 0,iV 0,.string ⟨#[]⟩])):=MA
theorem AW:Sz prog 216 11=true:=MA
theorem zK:Fld prog 213 0 0=true:=MA
theorem ym:Tn prog 213 5=true:=MA
theorem tl:Fld prog 213 3 3=true:=MA
theorem A5:Fld prog 213 4 4=true:=MA
theorem eE:Sl prog 146 9 1=true:=MA
theorem Cx:madeCells (Value.string ⟨#[]⟩:Value).cells (1*1) = #[.string ⟨#[]⟩]:=MA
theorem ot:(prog.info? 9).map (·.zero)=some (some (.string ⟨#[]⟩)):=MA
theorem Jx:(prog.info? 9).map (fun i=>(i.zero,i.size,i.bytes))=some (some (.string ⟨#[]⟩),1,16):=MA
theorem C5:Fld prog 87 3 3=true:=MA
theorem zu:Sl prog 84 173 11=true:=MA
theorem He:Tn prog 173 11=true:=MA
theorem qw:(prog.info? 173).map (·.zero)=some (some (.agg #[iV 0,iV 0,.string ⟨#[]⟩,iV 0,iV 0,.string ⟨#[]⟩,iV 0,.string ⟨#[]⟩,iV 0,iV 0,.string ⟨#[]⟩])):=MA
theorem vu:Sz prog 173 11=true:=MA
theorem Bd:madeCells (Value.agg #[iV 0,.string ⟨#[]⟩,iV 0,iV 0,.string ⟨#[]⟩]:Value).cells (2*5) = #[iV 0,.string ⟨#[]⟩,iV 0,iV 0,.string ⟨#[]⟩,iV 0,.string ⟨#[]⟩,iV 0,iV 0,.string ⟨#[]⟩]:=MA
theorem y0:Fld prog 87 4 4=true:=MA
theorem xQ:Sl prog 85 213 5=true:=MA
theorem pe:(prog.info? 213).map (·.zero)=some (some (.agg #[iV 0,.string ⟨#[]⟩,.slice none 0 0,iV 0,.string ⟨#[]⟩])):=MA
theorem rX:Sz prog 213 5=true:=MA
theorem xe:Fld prog 87 0 0=true:=MA
theorem GM:Fld prog 87 1 1=true:=MA
theorem HL:Fun prog 164=true:=MA
theorem si:Sl prog 24 87 5=true:=MA
theorem qN:Fld prog 26 1 1=true:=MA
theorem E8:T1 prog 24=true:=MA
theorem Iw:Fun prog 170=true:=MA
theorem Gg:Fld prog 26 0 0=true:=MA
theorem sU:(prog.info? 87).map (·.zero)=some (some (.agg #[.string ⟨#[]⟩,iV 0,.slice none 0 0,.slice none 0 0,.slice none 0 0])):=MA
theorem tZ:Sz prog 87 5=true:=MA
theorem BE:Tn prog 26 2=true:=MA
theorem FJ:Fld prog 52 1 1=true:=MA
theorem iB:Sl prog 50 95 3=true:=MA
theorem oN:Sz prog 95 3=true:=MA
theorem nR:Fld prog 29 0 0=true:=MA
theorem L9:T1 prog 27=true:=MA
theorem lL:Sl prog 27 66 3=true:=MA
theorem yd:Fld prog 29 1 1=true:=MA
theorem tN:(prog.info? 66).map (·.zero)=some (some (.agg #[iV 0,.string ⟨#[]⟩,.slice none 0 0])):=MA
theorem zL:Sz prog 66 3=true:=MA
theorem Bf:Fld prog 66 1 1=true:=MA
theorem nT:Tn prog 52 2=true:=MA
theorem Ji:Fun prog 63=true:=MA
theorem sZ:Fld prog 66 0 0=true:=MA
theorem C8:(prog.info? 95).map (fun i=>(i.zero,i.size,i.bytes))=some (some (.agg #[iV 0,iV 0,.string ⟨#[]⟩]),3,32):=MA
theorem mr:(prog.info? 52).map (·.zero)=some (some (.agg #[.string ⟨#[]⟩,.slice none 0 0])):=MA
theorem HT:Fun prog 196=true:=MA
theorem E9:Pl prog 52 #[(0,1),(1,1)]=true:=MA
theorem o9:Sz prog 52 2=true:=MA
theorem zM:Fld prog 137 3 3=true:=MA
theorem lz:T1 prog 60=true:=MA
theorem aY:Sl prog 60 3 1=true:=MA
theorem Fe:Fld prog 137 2 2=true:=MA
theorem vi:madeCells (Value.agg #[.string ⟨#[]⟩,.slice none 0 0,.bool false]:Value).cells (1*3) = #[.string ⟨#[]⟩,.slice none 0 0,.bool false]:=MA
theorem yk:(prog.info? 201).map (fun i=>(i.zero,i.size,i.bytes))=some (some (.agg #[.string ⟨#[]⟩,.slice none 0 0,.bool false]),3,48):=MA
theorem Dc:(prog.info? 191).map (·.zero)=some (some (.agg #[.slice none 0 0,.slice none 0 0,.slice none 0 0,.slice none 0 0,.slice none 0 0,.slice none 0 0,iV 0,iV 0])):=MA
theorem Cd:Fld prog 47 1 1=true:=MA
theorem A4:Sl prog 45 141 2=true:=MA
theorem Fp:Tn prog 141 2=true:=MA
theorem iG:Fld prog 35 0 0=true:=MA
theorem xj:T1 prog 32=true:=MA
theorem rm:Tn prog 29 2=true:=MA
theorem DH:Fun prog 115=true:=MA
theorem Ku:Pl prog 191 #[(0,1),(1,1),(2,2),(4,1),(5,2),(7,1)]=true:=MA
theorem Hc:Sz prog 191 8=true:=MA
theorem Gm:Tn prog 191 8=true:=MA
theorem gJ:Sl prog 61 97 4=true:=MA
theorem oe:(prog.info? 97).map (·.zero)=some (some (.agg #[.string ⟨#[]⟩,iV 0,iV 0,.string ⟨#[]⟩])):=MA
theorem sV:(prog.info? 97).map (fun i=>(i.zero,i.size,i.bytes))=some (some (.agg #[.string ⟨#[]⟩,iV 0,iV 0,.string ⟨#[]⟩]),4,48):=MA
theorem DW:Tn prog 97 4=true:=MA
theorem KQ:Sz prog 97 4=true:=MA
theorem FK:Fld prog 97 0 0=true:=MA
theorem H4:Fld prog 97 1 1=true:=MA
theorem Jb:Pl prog 97 #[(0,1),(1,3)]=true:=MA
theorem E3:madeCells (Value.agg #[.string ⟨#[]⟩,iV 0,iV 0,.string ⟨#[]⟩]:Value).cells (1*4) = #[.string ⟨#[]⟩,iV 0,iV 0,.string ⟨#[]⟩]:=MA
theorem Hv:Fun prog 184=true:=MA
theorem ci:Sl prog 101 105 2=true:=MA
theorem Gk:Tn prog 105 2=true:=MA
theorem fa:(prog.info? 105).map (·.zero)=some (some (.agg #[.slice none 0 0,.slice none 0 0])):=MA
theorem sC:Sz prog 105 2=true:=MA
theorem oD:Fld prog 105 0 0=true:=MA
theorem oH:Fld prog 105 1 1=true:=MA
theorem vv:Sz prog 3 1=true:=MA
theorem qX:madeCells (Value.agg #[.slice none 0 0,.slice none 0 0]:Value).cells (0*2) = #[]:=MA
theorem mQ:(prog.info? 105).map (fun i=>(i.zero,i.size,i.bytes))=some (some (.agg #[.slice none 0 0,.slice none 0 0]),2,48):=MA
theorem gF:(prog.info? 3).map (·.zero)=some (some (iV 0)):=MA
theorem jH:(prog.info? 3).map (fun i=>(i.zero,i.size,i.bytes))=some (some (iV 0),1,8):=MA
theorem ij:madeCells (Value.int .i64 0:Value).cells (1*1) = #[iV 0]:=MA
theorem vB:Pl prog 105 #[(0,1),(1,1)]=true:=MA
theorem pA:madeCells (Value.agg #[.slice none 0 0,.slice none 0 0]:Value).cells (1*2) = #[.slice none 0 0,.slice none 0 0]:=MA
theorem qU:Sz prog 60 1=true:=MA
theorem o8:Sl prog 98 103 1=true:=MA
theorem dR:Fld prog 103 0 0=true:=MA
theorem sk:T1 prog 101=true:=MA
theorem DV:Fun prog 179=true:=MA
theorem AG:Sz prog 101 1=true:=MA
theorem I1:Fun prog 197=true:=MA
theorem tt:Fld prog 141 0 0=true:=MA
theorem oc:Sl prog 32 133 1=true:=MA
theorem gw:Fld prog 133 0 0=true:=MA
theorem oK:Fld prog 47 0 0=true:=MA
theorem Gh:T1 prog 44=true:=MA
theorem zU:Sl prog 44 137 4=true:=MA
theorem uh:Tn prog 137 4=true:=MA
theorem oZ:(prog.info? 137).map (·.zero)=some (some (.agg #[.string ⟨#[]⟩,iV 0,.slice none 0 0,.slice none 0 0])):=MA
theorem ux:Sz prog 137 4=true:=MA
theorem pO:Fld prog 35 1 1=true:=MA
theorem J8:T1 prog 33=true:=MA
theorem qJ:Sl prog 33 100 1=true:=MA
theorem AB:Tn prog 100 1=true:=MA
theorem mO:(prog.info? 100).map (·.zero)=some (some (.agg #[.slice none 0 0])):=MA
theorem yf:Sz prog 100 1=true:=MA
theorem FQ:Tn prog 47 2=true:=MA
theorem vr:Tn prog 35 2=true:=MA
theorem fD:Fld prog 100 0 0=true:=MA
theorem wW:T1 prog 98=true:=MA
theorem HW:Fun prog 134=true:=MA
theorem GS:Pl prog 137 #[(0,1),(1,1),(2,1),(3,1)]=true:=MA
theorem AV:madeCells (Value.agg #[iV 0,iV 0,.string ⟨#[]⟩]:Value).cells (1*3) = #[iV 0,iV 0,.string ⟨#[]⟩]:=MA
theorem E7:Sz prog 50 1=true:=MA
theorem BJ:madeCells (Value.agg #[.string ⟨#[]⟩,iV 0,.slice none 0 0,.slice none 0 0]:Value).cells (1*4) = #[.string ⟨#[]⟩,iV 0,.slice none 0 0,.slice none 0 0]:=MA
theorem H8:(prog.info? 137).map (fun i=>(i.zero,i.size,i.bytes))=some (some (.agg #[.string ⟨#[]⟩,iV 0,.slice none 0 0,.slice none 0 0]),4,72):=MA
theorem J5:Sz prog 44 1=true:=MA
theorem tH:(prog.info? 47).map (·.zero)=some (some (.agg #[.slice none 0 0,.slice none 0 0])):=MA
theorem vN:(prog.info? 141).map (·.zero)=some (some (.agg #[.slice none 0 0,.slice none 0 0])):=MA
theorem vz:Fld prog 141 1 1=true:=MA
theorem BX:madeCells (Value.agg #[.slice none 0 0,.slice none 0 0]:Value).cells (1*2) = #[.slice none 0 0,.slice none 0 0]:=MA
theorem FY:(prog.info? 141).map (fun i=>(i.zero,i.size,i.bytes))=some (some (.agg #[.slice none 0 0,.slice none 0 0]),2,48):=MA
theorem Jf:Sz prog 45 1=true:=MA
theorem wi:Sz prog 47 2=true:=MA
theorem lJ:(prog.info? 35).map (·.zero)=some (some (.agg #[.slice none 0 0,.slice none 0 0])):=MA
theorem uw:(prog.info? 133).map (·.zero)=some (some (.agg #[.slice none 0 0])):=MA
theorem JG:By prog 133 24=true:=MA
theorem Gv:Pl prog 35 #[(0,1),(1,1)]=true:=MA
theorem mj:Sz prog 35 2=true:=MA
theorem Hl:Sz prog 141 2=true:=MA
theorem ut:(prog.info? 103).map (·.zero)=some (some (.agg #[.slice none 0 0])):=MA
theorem Ke:By prog 103 24=true:=MA
theorem AI:Pl prog 100 #[(0,1)]=true:=MA
theorem ve:madeCells (Value.agg #[.slice none 0 0]:Value).cells (1*1) = #[.slice none 0 0]:=MA
theorem Ai:(prog.info? 100).map (fun i=>(i.zero,i.size,i.bytes))=some (some (.agg #[.slice none 0 0]),1,24):=MA
theorem Ea:Sz prog 33 1=true:=MA
theorem Dp:Pl prog 29 #[(0,1),(1,1)]=true:=MA
theorem sF:(prog.info? 29).map (·.zero)=some (some (.agg #[.slice none 0 0,iV 0])):=MA
theorem Jq:Fun prog 68=true:=MA
theorem Ho:Tn prog 133 1=true:=MA
theorem Hr:Sz prog 133 1=true:=MA
theorem Gf:Tn prog 103 1=true:=MA
theorem GK:Sz prog 103 1=true:=MA
theorem LF:Fun prog 259=true:=MA
theorem LX:Ik prog 278 .u32=true:=MA
theorem EN:Ik prog 5 .u8=true:=MA
theorem ES:Ik prog 3 .i64=true:=MA
theorem LY:Ik prog 280 .u64=true:=MA
theorem Mw:Ik prog 249 .u64=true:=MA
theorem Mc:T1 prog 282=true:=MA
theorem Mm:Sz prog 282 1=true:=MA
theorem Mp:Ik prog 282 .u64=true:=MA
theorem M7:(prog.info? 282).map (·.zero)=some (some (.int .u64 0)):=MA
theorem LJ:Fun prog 268=true:=MA
theorem LH:Fun prog 263=true:=MA
theorem LQ:Fun prog 262=true:=MA
theorem LD:Fun prog 242=true:=MA
theorem LM:Fun prog 243=true:=MA
theorem LG:Fun prog 245=true:=MA
theorem LE:Fun prog 248=true:=MA
theorem LP:Fun prog 249=true:=MA
theorem LC:Fun prog 220=true:=MA
theorem LI:Fun prog 247=true:=MA
theorem LO:Fun prog 246=true:=MA
theorem LN:Fun prog 244=true:=MA
theorem JV:madeCells (Value.int .i64 0:Value).cells (2*1) = #[iV 0,iV 0]:=MA
theorem Dw:Fun prog 181=true:=MA
theorem Ir:Fun prog 183=true:=MA
theorem It:Fun prog 114=true:=MA
theorem Im:Fun prog 110=true:=MA
theorem Iq:Fun prog 112=true:=MA
theorem KE:Fun prog 42=true:=MA
theorem je:Sl prog 41 63 3=true:=MA
theorem IT:Tn prog 63 3=true:=MA
theorem mm:(prog.info? 63).map (·.zero)=some (some (.agg #[iV 0,.slice none 0 0,.slice none 0 0])):=MA
theorem IV:Sz prog 63 3=true:=MA
theorem FF:Fld prog 63 0 0=true:=MA
theorem Ba:Fld prog 63 1 1=true:=MA
theorem Gt:EqT prog 97 [.s,.i .i64,.i .i64,.s]=true:=MA
theorem Kb:Fun prog 28=true:=MA
theorem C3:Fld prog 63 2 2=true:=MA
theorem Gx:T1 prog 61=true:=MA
theorem Ju:Fun prog 51=true:=MA
theorem LT:T1 prog 5=true:=MA
theorem JQ:Pl prog 144 #[(0,1),(1,1),(2,1)]=true:=MA
theorem Ki:(prog.info? 144).map (·.zero)=some (some (.agg #[.slice none 0 0,iV 0,iV 0])):=MA
theorem zp:Fld prog 144 2 2=true:=MA
theorem EE:Fld prog 144 1 1=true:=MA
theorem ud:Fun prog 75=true:=MA
theorem vJ:madeCells (Value.string ⟨#[]⟩:Value).cells (2*1) = #[.string ⟨#[]⟩,.string ⟨#[]⟩]:=MA
theorem CA:Fun prog 88=true:=MA
theorem Iv:Fun prog 126=true:=MA
theorem AS:madeCells (Value.string ⟨#[]⟩:Value).cells (4*1) = #[.string ⟨#[]⟩,.string ⟨#[]⟩,.string ⟨#[]⟩,.string ⟨#[]⟩]:=MA
theorem Kx:Pl prog 201 #[(0,1),(1,1),(2,1)]=true:=MA
theorem wO:Fun prog 205=true:=MA
theorem vn:madeCells (Value.agg #[iV 0,.string ⟨#[]⟩,iV 0,iV 0,.string ⟨#[]⟩]:Value).cells (1*5) = #[iV 0,.string ⟨#[]⟩,iV 0,iV 0,.string ⟨#[]⟩]:=MA
theorem AY:(prog.info? 171).map (fun i=>(i.zero,i.size,i.bytes))=some (some (.agg #[iV 0,.string ⟨#[]⟩,iV 0,iV 0,.string ⟨#[]⟩]),5,56):=MA
theorem AK:Sz prog 199 1=true:=MA
theorem Kp:Pl prog 173 #[(0,1),(1,5),(6,5)]=true:=MA
theorem FM:Pl prog 216 #[(0,1),(1,5),(6,5)]=true:=MA
theorem Be:Sz prog 9 1=true:=MA
theorem JR:madeCells (Value.int .i64 0:Value).cells (8*1) = #[iV 0,iV 0,iV 0,iV 0,iV 0,iV 0,iV 0,iV 0]:=MA
theorem Jk:Pl prog 213 #[(0,1),(1,1),(2,1),(3,1),(4,1)]=true:=MA
theorem KD:madeCells (Value.string ⟨#[]⟩:Value).cells (5*1) = #[.string ⟨#[]⟩,.string ⟨#[]⟩,.string ⟨#[]⟩,.string ⟨#[]⟩,.string ⟨#[]⟩]:=MA
theorem I9:Fun prog 209=true:=MA
theorem Bg:madeCells (Value.agg #[.string ⟨#[]⟩,iV 0,.string ⟨#[]⟩,iV 0,iV 0,.string ⟨#[]⟩,iV 0,.string ⟨#[]⟩,iV 0,iV 0,.string ⟨#[]⟩]:Value).cells (1*11) = #[.string ⟨#[]⟩,iV 0,.string ⟨#[]⟩,iV 0,iV 0,.string ⟨#[]⟩,iV 0,.string ⟨#[]⟩,iV 0,iV 0,.string ⟨#[]⟩]:=MA
theorem Ge:(prog.info? 216).map (fun i=>(i.zero,i.size,i.bytes))=some (some (.agg #[.string ⟨#[]⟩,iV 0,.string ⟨#[]⟩,iV 0,iV 0,.string ⟨#[]⟩,iV 0,.string ⟨#[]⟩,iV 0,iV 0,.string ⟨#[]⟩]),11,128):=MA
theorem Hm:Sz prog 211 1=true:=MA
theorem GX:madeCells (Value.int .i64 0:Value).cells (4*1) = #[iV 0,iV 0,iV 0,iV 0]:=MA
theorem KG:madeCells (Value.int .i64 0:Value).cells (5*1) = #[iV 0,iV 0,iV 0,iV 0,iV 0]:=MA
theorem Lf:Pl prog 87 #[(0,1),(1,1),(2,1),(3,1),(4,1)]=true:=MA
theorem Dm:Fun prog 150=true:=MA
theorem DJ:Sz prog 83 1=true:=MA
theorem Ip:Fun prog 105=true:=MA
theorem Cb:madeCells (Value.agg #[iV 0,.string ⟨#[]⟩,.slice none 0 0,iV 0,.string ⟨#[]⟩]:Value).cells (1*5) = #[iV 0,.string ⟨#[]⟩,.slice none 0 0,iV 0,.string ⟨#[]⟩]:=MA
theorem CC:(prog.info? 213).map (fun i=>(i.zero,i.size,i.bytes))=some (some (.agg #[iV 0,.string ⟨#[]⟩,.slice none 0 0,iV 0,.string ⟨#[]⟩]),5,72):=MA
theorem FZ:Sz prog 85 1=true:=MA
theorem Bj:madeCells (Value.agg #[iV 0,iV 0,.string ⟨#[]⟩,iV 0,iV 0,.string ⟨#[]⟩,iV 0,.string ⟨#[]⟩,iV 0,iV 0,.string ⟨#[]⟩]:Value).cells (1*11) = #[iV 0,iV 0,.string ⟨#[]⟩,iV 0,iV 0,.string ⟨#[]⟩,iV 0,.string ⟨#[]⟩,iV 0,iV 0,.string ⟨#[]⟩]:=MA
theorem CN:(prog.info? 173).map (fun i=>(i.zero,i.size,i.bytes))=some (some (.agg #[iV 0,iV 0,.string ⟨#[]⟩,iV 0,iV 0,.string ⟨#[]⟩,iV 0,.string ⟨#[]⟩,iV 0,iV 0,.string ⟨#[]⟩]),11,120):=MA
theorem IZ:Sz prog 84 1=true:=MA
theorem sY:(prog.info? 26).map (·.zero)=some (some (.agg #[.string ⟨#[]⟩,.slice none 0 0])):=MA
theorem sX:madeCells (Value.string ⟨#[]⟩:Value).cells (3*1) = #[.string ⟨#[]⟩,.string ⟨#[]⟩,.string ⟨#[]⟩]:=MA
theorem L0:Pl prog 26 #[(0,1),(1,1)]=true:=MA
theorem sD:Sz prog 26 2=true:=MA
theorem Jz:Fun prog 89=true:=MA
theorem DF:madeCells (Value.agg #[.string ⟨#[]⟩,iV 0,.slice none 0 0,.slice none 0 0,.slice none 0 0]:Value).cells (1*5) = #[.string ⟨#[]⟩,iV 0,.slice none 0 0,.slice none 0 0,.slice none 0 0]:=MA
theorem J3:(prog.info? 87).map (fun i=>(i.zero,i.size,i.bytes))=some (some (.agg #[.string ⟨#[]⟩,iV 0,.slice none 0 0,.slice none 0 0,.slice none 0 0]),5,96):=MA
theorem Gj:Sz prog 24 1=true:=MA
theorem HO:madeCells (Value.agg #[iV 0,.string ⟨#[]⟩,.slice none 0 0]:Value).cells (0*3) = #[]:=MA
theorem Dz:madeCells (Value.agg #[iV 0,.string ⟨#[]⟩,.slice none 0 0]:Value).cells (1*3) = #[iV 0,.string ⟨#[]⟩,.slice none 0 0]:=MA
theorem J2:(prog.info? 66).map (fun i=>(i.zero,i.size,i.bytes))=some (some (.agg #[iV 0,.string ⟨#[]⟩,.slice none 0 0]),3,48):=MA
theorem IY:Sz prog 27 1=true:=MA
theorem Iu:Fun prog 108=true:=MA
theorem FT:Fun prog 48=true:=MA
theorem Ib:Fun prog 154=true:=MA
theorem Lr:Pl prog 66 #[(0,1),(1,2)]=true:=MA
theorem xL:Sz prog 29 2=true:=MA
theorem Ks:Fun prog 90=true:=MA
theorem wU:Fun prog 235=true:=MA
theorem Lq:T1 prog 41=true:=MA
theorem zR:Pl prog 63 #[(0,1),(1,1),(2,1)]=true:=MA
theorem rI:madeCells (Value.agg #[iV 0,.slice none 0 0,.slice none 0 0]:Value).cells (1*3) = #[iV 0,.slice none 0 0,.slice none 0 0]:=MA
theorem yj:(prog.info? 63).map (fun i=>(i.zero,i.size,i.bytes))=some (some (.agg #[iV 0,.slice none 0 0,.slice none 0 0]),3,56):=MA
theorem DS:Sz prog 41 1=true:=MA
theorem AZ:Fun prog 201=true:=MA
theorem AJ:madeCells (Value.agg #[iV 0,.slice none 0 0,.slice none 0 0]:Value).cells (0*3) = #[]:=MA
theorem Ly:(prog.info? 41).map (·.zero)=some (some (.slice none 0 0)):=MA
theorem Ig:Fun prog 142=true:=MA
theorem Kj:Fun prog 36=true:=MA
theorem JA:Fun prog 73=true:=MA
theorem Hd:madeCells (Value.agg #[.string ⟨#[]⟩,.slice none 0 0,.bool false]:Value).cells (0*3) = #[]:=MA
theorem Jw:madeCells (Value.int .i64 0:Value).cells (3*1) = #[iV 0,iV 0,iV 0]:=MA
theorem HZ:Fun prog 155=true:=MA
theorem GZ:madeCells (Value.agg #[iV 0,.string ⟨#[]⟩,.slice none 0 0,iV 0,.string ⟨#[]⟩]:Value).cells (0*5) = #[]:=MA
theorem LV:Sz prog 4 1=true:=MA
theorem JP:Fun prog 93=true:=MA
theorem JK:Fun prog 92=true:=MA
theorem CT:Fun prog 81=true:=MA
theorem Ht:Fun prog 203=true:=MA
theorem KK:Pl prog 47 #[(0,1),(1,1)]=true:=MA
theorem Kg:Pl prog 141 #[(0,1),(1,1)]=true:=MA
theorem GO:Pl prog 133 #[(0,1)]=true:=MA
theorem BA:madeCells (Value.agg #[.slice none 0 0]:Value).cells (1*1) = #[.slice none 0 0]:=MA
theorem GR:(prog.info? 133).map (fun i=>(i.zero,i.size,i.bytes))=some (some (.agg #[.slice none 0 0]),1,24):=MA
theorem J1:Sz prog 32 1=true:=MA
theorem GE:Pl prog 103 #[(0,1)]=true:=MA
theorem Bh:madeCells (Value.agg #[.slice none 0 0]:Value).cells (1*1) = #[.slice none 0 0]:=MA
theorem Gw:(prog.info? 103).map (fun i=>(i.zero,i.size,i.bytes))=some (some (.agg #[.slice none 0 0]),1,24):=MA
theorem J6:Sz prog 98 1=true:=MA
theorem Dh:Fun prog 191=true:=MA
theorem Ic:Fun prog 228=true:=MA
theorem HP:Fun prog 229=true:=MA
theorem DX:Fun prog 193=true:=MA
theorem Hq:Fun prog 46=true:=MA
theorem Mo:By prog 3 8=true:=MA
theorem Cz:Sl prog 242 4 1=true:=MA
theorem E5:Fun prog 230=true:=MA
theorem IG:Fun prog 231=true:=MA
theorem KY:(prog.info? 4).map (·.zero)=some (some (.bool false)):=MA
theorem Ie:Fun prog 194=true:=MA
theorem Jp:madeCells (Value.bool false:Value).cells (1*1) = #[.bool false]:=MA
theorem M5:(prog.info? 4).map (fun i=>(i.zero,i.size,i.bytes))=some (some (.bool false),1,1):=MA
theorem Ii:Fun prog 195=true:=MA
theorem HI:Fun prog 125=true:=MA
theorem Iy:Fun prog 202=true:=MA
theorem K9:Fun prog 45=true:=MA
theorem HG:Fun prog 102=true:=MA
theorem HV:Fun prog 103=true:=MA
theorem IC:Fun prog 104=true:=MA
theorem Jn:Fun prog 43=true:=MA
theorem Kh:Fun prog 44=true:=MA
theorem Jh:Fun prog 47=true:=MA
theorem Ky:Fun prog 82=true:=MA
theorem JZ:Fun prog 29=true:=MA
theorem Fm:Fun prog 14=true:=MA
theorem JW:Fun prog 13=true:=MA
theorem JH:Fun prog 31=true:=MA
variable {e a:Hp} {g f k j n ar:Value} {a1 l o p a6 pG1_0:List Nat} {ad:Nat} (N:Nat)
theorem CE (w0:av e a []) (b:(List Int)) (c:RSl (RI .u8) 1 e a1 g b) {r:Bool} (h:wS N b=some r) :
  CB w0 prog 8 [g] (.bool r):=by
 refine eN func8 J ntmps8 J w0 fun d=>?_
 unfold wS at h
 refine atr 7 [] J<|lnr c J<|art 3 [] J ?_
 exact rt d h
theorem sL  (w0:av e a []) (c:Int)  {r:Bool} (h:jZ N c=some r) :
  CB w0 prog 160 [.int .u8 c] (.bool r):=by
 refine eN func160 J ntmps160 J w0 fun d=>?_
 unfold jZ at h
 refine atr 9 [] J ?_
 obtain⟨i,b,h⟩:=bs h
 refine WL.cutN 3 [(8,.bool i),(2,.bool false)] ?_ (fun K=>?_)
 rotate_left
 ·refine sp 5 b J (fun b=>?_) fun b=>?_
  ·refine arr 3 [] J ?_
   cases b
   exact ku K
  ·refine arr 3 [] J ?_
   cases b
   exact ku K
 refine la J<|en ?_
 exact rt d h
theorem xJ  (w0:av e a []) (c:Int)  {r:Bool} (h:qj N c=some r) :
  CB w0 prog 236 [.int .u8 c] (.bool r):=by
 refine eN func236 J ntmps236 J w0 fun d=>?_
 unfold qj at h
 refine atr 9 [] J ?_
 obtain⟨i,b,h⟩:=bs h
 refine WL.cutN 3 [(8,.bool i),(2,.bool false)] ?_ (fun K=>?_)
 rotate_left
 ·refine sp 5 b J (fun b=>?_) fun b=>?_
  ·refine arr 3 [] J ?_
   cases b
   exact ku K
  ·refine arr 3 [] J ?_
   cases b
   exact ku K
 refine la J<|en ?_
 exact rt d h
theorem qf  (w0:av e a []) (c:Int)  {r:Bool} (h:iJ N c=some r) :
  CB w0 prog 210 [.int .u8 c] (.bool r):=by
 refine eN func210 J ntmps210 J w0 fun i=>?_
 unfold iJ at h
 refine atr 7 [] J<|qc h (sL N · c ·) J J J fun s h=>la J ?_
 obtain⟨m,b,h⟩:=bs h
 refine WL.cutN 3 [(8,.bool m),(0,.int .u8 c),(2,.bool false)] ?_ (fun K=>?_)
 rotate_left
 ·refine sp 5 b J (fun b=>?_) fun b=>?_
  ·refine arr 3 [] J ?_
   cases b
   exact ku K
  ·refine ly J J<|la J<|ly J J<|qc b (xJ N · c ·) J J J fun t b=>la J ?_
   cases b
   exact ku K
 refine la J ?_
 obtain⟨q,d,h⟩:=bs h
 refine WL.cutN 3 [(12,.bool q),(2,.bool false)] ?_ (fun K=>?_)
 rotate_left
 ·refine sp 9 d J (fun d=>?_) fun d=>?_
  ·refine arr 3 [] J ?_
   cases d
   exact ku K
  ·refine arr 3 [] J ?_
   cases d
   exact ku K
 refine la J<|en ?_
 exact rt i h
theorem tV  (w0:av e a []) (b:ByteArray) (d:Int)  {r:Bool} (h:mM N b d=some r) :
  CB w0 prog 161 [.string b,iV d] (.bool r):=by
 refine eN func161 J ntmps161 J w0 fun c=>?_
 unfold mM at h
 refine atr 8 [] J<|lq (nW ky J J) J<|art 3 [] J ?_
 refine ch h J ?_ ?_ <;> intro h
 ·refine att 4 [] J ?_
  exact rt c h
 refine att 7 [] J ?_
 refine lin (σ:=Int) (fun s=>[(0,.string b),(5,iV s)]) (fun s=>St w0 a [] []) (fun m s=>eU N b m s=some r) (0) N h (sx [] []) (fun i q s hm=>?_)
 revert hm;revert s;intro s1 hm
 have h:eU N b (i+1) s1=some r:=hm
 show WT _ _ [(0,.string b),(5,iV s1)] (St w0 a [] [])
 unfold eU at h
 refine atr 5 [] J<|lq (nW ky J J) J<|la J<|en ?_
 refine ch h J ?_ ?_ <;> intro h
 ·refine atr 7 [] J ?_
  obtain⟨t,u,h⟩:=bs h
  refine lq (kG ky J J u) J<|qc h (qf N · (t.toNat:Int) ·) J J J fun v h=>la J<|en ?_
  refine ch h J ?_ ?_ <;> intro h
  ·refine att 4 [] J ?_
   exact rt c h
  refine att 7 [] J ?_
  exact lb [] [] (q _ h)
 refine att 5 [] J ?_
 exact rt c h
theorem jq  (w0:av e a []) (d:ByteArray)  {r:Bool} (h:gE N d=some r) :
  CB w0 prog 96 [.string d] (.bool r):=by
 refine eN func96 J ntmps96 J w0 fun i=>?_
 unfold gE at h
 refine atr 7 [] J<|lq (nW ky J J) J<|arr 2 [] J ?_
 obtain⟨m,b,h⟩:=bs h
 refine WL.cutN 4 [(10,.bool m),(0,.string d),(2,.bool false)] ?_ (fun K=>?_)
 rotate_left
 ·refine sp 6 b J (fun b=>?_) fun b=>?_
  ·refine ly J J<|la J<|ly J J ?_
   obtain⟨q,s,b⟩:=bs b
   refine lq (kG ky J J s) J<|ly J J<|qc b (sL N · (q.toNat:Int) ·) J J J fun u b=>la J ?_
   cases b
   exact ku K
  ·refine arr 4 [] J ?_
   cases b
   exact ku K
 refine la J ?_
 obtain⟨t,c,h⟩:=bs h
 refine WL.cutN 3 [(14,.bool t),(2,.bool false)] ?_ (fun K=>?_)
 rotate_left
 ·refine sp 11 c J (fun c=>?_) fun c=>?_
  ·refine ly J J<|la J<|ly J J<|qc c (tV N · d 12 ·) J J J fun v c=>la J ?_
   cases c
   exact ku K
  ·refine arr 3 [] J ?_
   cases c
   exact ku K
 refine la J<|en ?_
 exact rt i h
theorem d5  (w0:av e a []) (c:Int) (d:Int) (i:Int)  {r:Bool} (h:cU N c d i=some r) :
  CB w0 prog 97 [iV c,iV d,iV i] (.bool r):=by
 refine eN func97 J ntmps97 J w0 fun m=>?_
 unfold cU at h
 refine atr 10 [] J ?_
 obtain⟨q,b,h⟩:=bs h
 refine WL.cutN 4 [(14,.bool q),(6,.bool false)] ?_ (fun K=>?_)
 rotate_left
 ·refine sp 10 b J (fun b=>?_) fun b=>?_
  ·refine arr 4 [] J ?_
   cases b
   exact ku K
  ·refine arr 4 [] J ?_
   cases b
   exact ku K
 refine la J<|en ?_
 exact rt m h
theorem nV (w0:av e a []) (b:ai) (c:RSl bN 3 e l f b.Pats) (w:RSl bl 11 e o k b.Conds) (x:RSl dK 5 e p j b.Acts) {r:Int} (h:iY N b=some r) :
  CB w0 prog 165 [.agg [.string b.Name,iV b.Sal,f,k,j].toArray] (iV r):=by
 refine eN func165 J ntmps165 J w0 fun q=>?_
 unfold iY at h
 refine sr<|lbx J fun y=>arr 11 [2,0] J<|lnr c J<|art 3 [] J ?_
 refine lin (σ:=Int × Int) (fun s=>[(3,iV s.1),(7,f),(8,iV (b.Pats.length:Int)),(9,iV s.2)]) (fun s=>St w0 a [] []) (fun m s=>dG N b m s.1 s.2=some r) (0,0) N h (sx [] []) (fun t d s hm=>?_)
 obtain⟨s1,s2⟩:=s
 have h:dG N b (t+1) s1 s2=some r:=hm
 show WT _ _ [(3,iV s1),(7,f),(8,iV (b.Pats.length:Int)),(9,iV s2)] (St w0 a [] [])
 unfold dG at h
 refine att 5 [] J ?_
 refine ch h J ?_ ?_ <;> intro h
 ·refine atr 5 [] J ?_
  obtain⟨z,i,h⟩:=bs h
  obtain⟨A,B,-,g1,C,D,u⟩:=c.el (aa i).2.2
  obtain⟨v1,E,rfl,v,h1⟩:=u
  obtain rfl:=v.symm
  refine lia c i J<|lhx 0 3 g1 J<|lnz jB J fun F=>soN 0 o1 J ⟨J,h1.one,J,trivial⟩ J ?_
  refine art 7 [2,0] J ?_
  refine ch h J ?_ ?_ <;> intro h
  ·refine att 10 [] J ?_
   exact lb [] [] (d (_,_) h)
  refine att 6 [] J ?_
  exact lb [] [] (d (_,_) h)
 refine att 6 [] J ?_
 exact rt q h
theorem vm  (w0:av e a []) (c:bi)  {r:Bool} (h:lK N c=some r) :
  CB w0 prog 128 [.agg [iV c.K,iV c.N,.string c.S].toArray] (.bool r):=by
 refine eN func128 J ntmps128 J w0 fun i=>?_
 unfold lK at h
 refine sr<|lbx J fun s=>art 14 [0,0] J ?_
 refine ch h J ?_ ?_ <;> intro h
 ·refine atr 4 [1,0] J<|qc h (d5 N · c.N (-1000000000) 1000000000 ·) J J J fun t h=>la J ?_
  obtain⟨m,d,h⟩:=bs h
  refine WL.cutN 4 [(14,.bool m),(2,.bool false)] ?_ (fun K=>?_)
  rotate_left
  ·refine sp 10 d J (fun d=>?_) fun d=>?_
   ·refine arr 4 [2,0] J ?_
    cases d
    exact ku K
   ·refine arr 4 [] J ?_
    cases d
    exact ku K
  refine la J<|en ?_
  exact rt i h
 refine att 5 [] J ?_
 refine ch h J ?_ ?_ <;> intro h
 ·refine atr 6 [1,0] J ?_
  obtain⟨q,b,h⟩:=bs h
  refine WL.cutN 4 [(24,.bool q),(2,.bool false)] ?_ (fun K=>?_)
  rotate_left
  ·refine sp 20 b J (fun b=>?_) fun b=>?_
   ·refine arr 2 [2,0] J<|ly J J<|qc b (tV N · c.S 20 ·) J J J fun u b=>la J ?_
    cases b
    exact ku K
   ·refine arr 4 [] J ?_
    cases b
    exact ku K
  refine la J<|en ?_
  exact rt i h
 refine att 6 [] J ?_
 exact rt i h
theorem sM  (w0:av e a []) (c:Int)  {r:Bool} (h:lB N c=some r) :
  CB w0 prog 267 [.int .u8 c] (.bool r):=by
 refine eN func267 J ntmps267 J w0 fun d=>?_
 unfold lB at h
 refine atr 9 [] J ?_
 obtain⟨i,b,h⟩:=bs h
 refine WL.cutN 3 [(8,.bool i),(2,.bool false)] ?_ (fun K=>?_)
 rotate_left
 ·refine sp 5 b J (fun b=>?_) fun b=>?_
  ·refine arr 3 [] J ?_
   cases b
   exact ku K
  ·refine arr 3 [] J ?_
   cases b
   exact ku K
 refine la J<|en ?_
 exact rt d h
theorem Aj  (w0:av e a []) (b:ByteArray)  {r:Bool} (h:qR N b=some r) :
  CB w0 prog 256 [.string b] (.bool r):=by
 refine eN func256 J ntmps256 J w0 fun q=>?_
 unfold qR at h
 refine atr 8 [] J<|lq (nW ky J J) J<|arr 2 [] J ?_
 obtain⟨t,i,h⟩:=bs h
 refine WL.cutN 4 [(11,.bool t),(0,.string b)] ?_ (fun K=>?_)
 rotate_left
 ·refine sp 7 i J (fun i=>?_) fun i=>?_
  ·refine arr 4 [] J ?_
   cases i
   exact ku K
  ·refine ly J J<|la J<|ly J J<|lq (nW ky J J) J<|arr 2 [] J ?_
   cases i
   exact ku K
 refine la J ?_
 obtain⟨u,c,h⟩:=bs h
 refine WL.cutN 5 [(17,.bool u),(0,.string b)] ?_ (fun K=>?_)
 rotate_left
 ·refine sp 12 c J (fun c=>?_) fun c=>?_
  ·refine arr 5 [] J ?_
   cases c
   exact ku K
  ·refine ly J J<|la J<|ly J J ?_
   obtain⟨v,w,c⟩:=bs c
   refine lq (kG ky J J w) J<|ly J J<|qc c (sM N · (v.toNat:Int) ·) J J J fun E c=>arr 2 [] J ?_
   cases c
   exact ku K
 refine en ?_
 refine ch h J ?_ ?_ <;> intro h
 ·refine att 4 [] J ?_
  exact rt q h
 refine att 7 [] J ?_
 refine lin (σ:=Int) (fun s=>[(0,.string b),(3,iV s)]) (fun s=>St w0 a [] []) (fun m s=>gW N b m s=some r) (0) N h (sx [] []) (fun x y s hm=>?_)
 revert hm;revert s;intro s1 hm
 have h:gW N b (x+1) s1=some r:=hm
 show WT _ _ [(0,.string b),(3,iV s1)] (St w0 a [] [])
 unfold gW at h
 refine atr 5 [] J<|lq (nW ky J J) J<|la J<|en ?_
 refine ch h J ?_ ?_ <;> intro h
 ·refine atr 7 [] J ?_
  obtain⟨z,A,h⟩:=bs h
  refine lq (kG ky J J A) J<|qc h (qf N · (z.toNat:Int) ·) J J J fun F h=>arr 2 [] J ?_
  obtain⟨B,d,h⟩:=bs h
  refine WL.cutN 6 [(35,.bool B),(0,.string b),(3,iV s1)] ?_ (fun K=>?_)
  rotate_left
  ·refine sp 29 d J (fun d=>?_) fun d=>?_
   ·refine arr 2 [] J<|ly J J ?_
    obtain⟨C,D,d⟩:=bs d
    refine lq (kG ky J J D) J<|ly J J<|qc d (sM N · (C.toNat:Int) ·) J J J fun G d=>arr 2 [] J ?_
    cases d
    exact ku K
   ·refine arr 6 [] J ?_
    cases d
    exact ku K
  refine en ?_
  refine ch h J ?_ ?_ <;> intro h
  ·refine att 4 [] J ?_
   exact rt q h
  refine att 7 [] J ?_
  exact lb [] [] (y _ h)
 refine att 5 [] J ?_
 exact rt q h
theorem uH  (w0:av e a []) (b:bn)  {r:Bool} (h:oF N b=some r) :
  CB w0 prog 237 [.agg [iV b.K,.string b.S,iV b.V.K,iV b.V.N,.string b.V.S].toArray] (.bool r):=by
 refine eN func237 J ntmps237 J w0 fun m=>?_
 unfold oF at h
 refine sr<|lbx J fun u=>art 14 [0,0] J ?_
 refine ch h J ?_ ?_ <;> intro h
 ·refine atr 4 [1,0] J<|qc h (Aj N · b.S ·) J J J fun v h=>la J ?_
  obtain⟨q,d,h⟩:=bs h
  refine WL.cutN 5 [(15,.bool q),(2,.bool false)] ?_ (fun K=>?_)
  rotate_left
  ·refine sp 10 d J (fun d=>?_) fun d=>?_
   ·refine arr 2 [2,3] J<|ly J J<|lq (aU (vs:=[]) (C:=#[iV 0,iV 0,.string (⟨#[]⟩:ByteArray)]) vc jF J (ab)) J<|ly J J<|lq (zj mT J J J (r:=bq b.V (⟨0,0,(⟨#[]⟩:ByteArray)⟩:bi)) J) J<|la J ?_
    cases d
    exact ku K
   ·refine arr 5 [] J ?_
    cases d
    exact ku K
  refine la J<|en ?_
  exact rt m h
 refine att 5 [] J ?_
 refine ch h J ?_ ?_ <;> intro h
 ·refine atr 6 [1,0] J ?_
  obtain⟨s,c,h⟩:=bs h
  refine WL.cutN 4 [(25,.bool s),(2,.bool false)] ?_ (fun K=>?_)
  rotate_left
  ·refine sp 21 c J (fun c=>?_) fun c=>?_
   ·refine arr 2 [2,3] J<|ly J J<|qc c (vm N · b.V ·) J J J fun w c=>la J ?_
    cases c
    exact ku K
   ·refine arr 4 [] J ?_
    cases c
    exact ku K
  refine la J<|en ?_
  exact rt m h
 refine att 5 [] J ?_
 refine ch h J ?_ ?_ <;> intro h
 ·refine atr 6 [1,0] J ?_
  obtain⟨t,i,h⟩:=bs h
  refine WL.cutN 5 [(36,.bool t),(2,.bool false)] ?_ (fun K=>?_)
  rotate_left
  ·refine sp 31 i J (fun i=>?_) fun i=>?_
   ·refine arr 2 [2,3] J<|ly J J<|lq (aU (vs:=[]) (C:=#[iV 0,iV 0,.string (⟨#[]⟩:ByteArray)]) vc jF J (ab)) J<|ly J J<|lq (zj mT J J J (r:=bq b.V (⟨0,0,(⟨#[]⟩:ByteArray)⟩:bi)) J) J<|la J ?_
    cases i
    exact ku K
   ·refine arr 5 [] J ?_
    cases i
    exact ku K
  refine la J<|en ?_
  exact rt m h
 refine att 6 [] J ?_
 exact rt m h
theorem B2 (w0:av e a []) (b:au) (d:RSl bV 5 e l f b.Args) {r:Bool} (h:qW N b=some r) :
  CB w0 prog 211 [.agg [.string b.Kind,f,.bool b.Not].toArray] (.bool r):=by
 refine eN func211 J ntmps211 J w0 fun i=>?_
 unfold qW at h
 refine sr<|lbx J fun t=>arr 7 [0,0] J<|qc h (jq N · b.Kind ·) J J J fun z h=>arr 2 [] J ?_
 obtain⟨u,c,h⟩:=bs h
 refine WL.cutN 5 [(14,.bool u),(1,pQ t)] ?_ (fun K=>?_)
 rotate_left
 ·refine sp 9 c J (fun c=>?_) fun c=>?_
  ·refine arr 5 [] J ?_
   cases c
   exact ku K
  ·refine arr 2 [1,0] J<|ly J J<|lnr d J<|arr 2 [] J ?_
   cases c
   exact ku K
 refine en ?_
 refine ch h J ?_ ?_ <;> intro h
 ·refine att 4 [] J ?_
  exact rt i h
 refine atr 6 [1,0] J<|lnr d J<|art 3 [] J ?_
 refine lin (σ:=Int) (fun s=>[(16,f),(17,iV (b.Args.length:Int)),(18,iV s)]) (fun s=>St w0 a [] []) (fun m s=>gU N b m s=some r) (0) N h (sx [] []) (fun v w s hm=>?_)
 revert hm;revert s;intro s1 hm
 have h:gU N b (v+1) s1=some r:=hm
 show WT _ _ [(16,f),(17,iV (b.Args.length:Int)),(18,iV s1)] (St w0 a [] [])
 unfold gU at h
 refine att 5 [] J ?_
 refine ch h J ?_ ?_ <;> intro h
 ·refine atr 5 [] J ?_
  obtain⟨x,q,h⟩:=bs h
  obtain⟨A,B,-,g1,C,D,y⟩:=d.el (aa q).2.2
  obtain⟨rfl,-⟩:=y
  refine lia d q J<|lhx 0 5 g1 J<|lnz fS J fun E=>soN 0 gL J ⟨J,J,J,J,J,trivial⟩ J ?_
  refine arr 4 [5] J<|qc h (uH N · x ·) J J J fun F h=>la J<|en ?_
  refine ch h J ?_ ?_ <;> intro h
  ·refine att 4 [] J ?_
   exact rt i h
  refine att 6 [] J ?_
  exact lb [] [] (w _ h)
 refine att 5 [] J ?_
 exact rt i h
theorem yF (w0:av e a []) (b:ai) (t:RSl bN 3 e l f b.Pats) (y:RSl bl 11 e o k b.Conds) (z:RSl dK 5 e p j b.Acts) {r:Bool} (h:oV N b=some r) :
  CB w0 prog 162 [.agg [.string b.Name,iV b.Sal,f,k,j].toArray] (.bool r):=by
 refine eN func162 J ntmps162 J w0 fun v=>?_
 unfold oV at h
 refine sr<|lbx J fun u=>arr 7 [2,0] J<|lnr t J<|qc h (d5 N · (b.Pats.length:Int) 1 6 ·) J J J fun O h=>arr 2 [] J ?_
 obtain⟨C,c,h⟩:=bs h
 refine WL.cutN 5 [(15,.bool C),(1,pQ u)] ?_ (fun K=>?_)
 rotate_left
 ·refine sp 10 c J (fun c=>?_) fun c=>?_
  ·refine arr 5 [] J ?_
   cases c
   exact ku K
  ·refine ly J J<|ld5 o7 0 J<|ly J J<|qd c (nV N · b t y z ·) J J J fun D c=>ly J J<|qc c (d5 N · D 1 3 ·) J J J fun P c=>arr 2 [] J ?_
   cases c
   exact ku K
 refine en ?_
 refine ch h J ?_ ?_ <;> intro h
 ·refine att 4 [] J ?_
  exact rt v h
 refine atr 6 [2,0] J<|lnr t J<|art 3 [] J ?_
 refine lin (σ:=Int) (fun s=>[(1,pQ u),(17,f),(18,iV (b.Pats.length:Int)),(19,iV s)]) (fun s=>St w0 a [(u,.cells #[.string b.Name,iV b.Sal,f,k,j] 87 (0,0))] []) (fun m s=>eK N b m s=some r) (0) N h (sx [] [0]) (fun E F s hm=>?_)
 revert hm;revert s;intro s1 hm
 have h:eK N b (E+1) s1=some r:=hm
 show WT _ _ [(1,pQ u),(17,f),(18,iV (b.Pats.length:Int)),(19,iV s1)] (St w0 a [(u,.cells #[.string b.Name,iV b.Sal,f,k,j] 87 (0,0))] [])
 unfold eK at h
 refine att 5 [] J ?_
 refine ch h J ?_ ?_ <;> intro h
 ·refine atr 6 [] J ?_
  obtain⟨w,A,h⟩:=bs h
  obtain⟨Q,R,-,g1,S,T,G⟩:=t.el (aa A).2.2
  obtain⟨v1,U,rfl,H,h1⟩:=G
  obtain rfl:=H.symm
  refine lia t A J<|lhx 0 3 g1 J<|lnz jB J fun V=>la J<|soN 0 o1 J ⟨J,h1.one,J,trivial⟩ J ?_
  refine en<|sq<|WT.draw mixed MA (fun _ h=>h.drew)<|qq (aC sm J (fun B hw=>hw.rgO (i:=0) J 0 3 [.string w.Kind,v1,.bool w.Not] J) J) J ?_
  obtain⟨W,I,h⟩:=bs h
  refine qp (cK Hy J (fun B hw=>B2 N (ba hw.in0) w h1 I)) J<|aqq 2 [] J ?_
  obtain⟨L,q,h⟩:=bs h
  refine WQ.cutN 8 [(35,.bool L),(1,pQ u),(17,f),(18,iV (b.Pats.length:Int)),(19,iV s1)] ?_ (fun K=>?_)
  rotate_left
  ·refine WQ.split (d:=27) J (fun x=>?_) (fun x=>?_)
   ·replace q:=fR q x
    refine aqq 8 [] J ?_
    cases q
    exact kq K
   ·replace q:=fO q x
    refine aqq 4 [2,0,37] J<|WQ.yes J J ?_
    obtain⟨X,M,q⟩:=bs q
    refine qp (cK E0 J (fun B hw=>nV N (ba hw.in0) b t y z M)) J<|WQ.yes J J<|qq (J7 J J) J<|WQ.yes J J<|qq (Lp Iz J J) J<|WQ.q (qh J J) J J J ?_
    cases q
    exact kq K
  refine WQ.nil ?_
  refine ch h J ?_ ?_ <;> intro h
  ·refine att 4 [] J ?_
   exact rt v h
  refine att 6 [] J ?_
  exact lb [] [1] (F _ h)
 refine att 5 [] J ?_
 exact rt v h
theorem kK  (w0:av e a []) (b:bn)  {r:Bool} (h:iX N b=some r) :
  CB w0 prog 212 [.agg [iV b.K,.string b.S,iV b.V.K,iV b.V.N,.string b.V.S].toArray] (.bool r):=by
 refine eN func212 J ntmps212 J w0 fun d=>?_
 unfold iX at h
 refine sr<|lbx J fun m=>arr 8 [0,0] J ?_
 obtain⟨i,c,h⟩:=bs h
 refine WL.cutN 3 [(9,.bool i),(2,.bool false)] ?_ (fun K=>?_)
 rotate_left
 ·refine sp 6 c J (fun c=>?_) fun c=>?_
  ·refine ly J J<|ld5 mJ 0 J<|ly J J<|qc c (uH N · b ·) J J J fun q c=>la J ?_
   cases c
   exact ku K
  ·refine arr 3 [] J ?_
   cases c
   exact ku K
 refine la J<|en ?_
 exact rt d h
theorem yS  (w0:av e a []) (b:ce)  {r:Bool} (h:oQ N b=some r) :
  CB w0 prog 163 [.agg [iV b.Op,iV b.L.K,.string b.L.S,iV b.L.V.K,iV b.L.V.N,.string b.L.V.S,iV b.R.K,.string b.R.S,iV b.R.V.K,iV b.R.V.N,.string b.R.V.S].toArray] (.bool r):=by
 refine eN func163 J ntmps163 J w0 fun i=>?_
 unfold oQ at h
 refine sr<|lbx J fun m=>arr 6 [0,0] J<|qc h (d5 N · b.Op 1 3 ·) J J J fun t h=>la J ?_
 obtain⟨q,c,h⟩:=bs h
 refine WL.cutN 4 [(10,.bool q),(1,pQ m),(2,.bool false)] ?_ (fun K=>?_)
 rotate_left
 ·refine sp 6 c J (fun c=>?_) fun c=>?_
  ·refine arr 2 [1,5] J<|ly J J<|qc c (kK N · b.L ·) J J J fun u c=>la J ?_
   cases c
   exact ku K
  ·refine arr 4 [] J ?_
   cases c
   exact ku K
 refine la J ?_
 obtain⟨s,d,h⟩:=bs h
 refine WL.cutN 4 [(15,.bool s),(2,.bool false)] ?_ (fun K=>?_)
 rotate_left
 ·refine sp 11 d J (fun d=>?_) fun d=>?_
  ·refine arr 2 [6,5] J<|ly J J<|qc d (kK N · b.R ·) J J J fun v d=>la J ?_
   cases d
   exact ku K
  ·refine arr 4 [] J ?_
   cases d
   exact ku K
 refine la J<|en ?_
 exact rt i h
theorem zc  (w0:av e a []) (b:bY)  {r:Bool} (h:ph N b=some r) :
  CB w0 prog 238 [.agg [.string b.Op,iV b.L.K,.string b.L.S,iV b.L.V.K,iV b.L.V.N,.string b.L.V.S,iV b.R.K,.string b.R.S,iV b.R.V.K,iV b.R.V.N,.string b.R.V.S].toArray] (.bool r):=by
 refine eN func238 J ntmps238 J w0 fun m=>?_
 unfold ph at h
 refine sr<|lbx J fun i=>art 14 [0,0] J ?_
 refine ch h J ?_ ?_ <;> intro h
 ·refine atr 4 [1,5] J<|qc h (kK N · b.L ·) J J J fun u h=>la J ?_
  obtain⟨q,d,h⟩:=bs h
  refine WL.cutN 5 [(15,.bool q),(2,.bool false)] ?_ (fun K=>?_)
  rotate_left
  ·refine sp 10 d J (fun d=>?_) fun d=>?_
   ·refine arr 2 [6,5] J<|ly J J<|lq (aU (vs:=[]) (C:=#[iV 0,.string (⟨#[]⟩:ByteArray),iV 0,iV 0,.string (⟨#[]⟩:ByteArray)]) sK fS J (ab)) J<|ly J J<|lq (zj Dk J J J (r:=nB b.R (⟨0,(⟨#[]⟩:ByteArray),(⟨0,0,(⟨#[]⟩:ByteArray)⟩:bi)⟩:bn)) J) J<|la J ?_
    cases d
    exact ku K
   ·refine arr 5 [] J ?_
    cases d
    exact ku K
  refine la J<|en ?_
  exact rt m h
 refine att 6 [] J ?_
 refine cut (σ:=Bool) (fun s=>[(1,pQ i),(16,.bool s)]) (fun s=>St w0 a [(i,.cells #[.string b.Op,iV b.L.K,.string b.L.S,iV b.L.V.K,iV b.L.V.N,.string b.L.V.S,iV b.R.K,.string b.R.S,iV b.R.V.K,iV b.R.V.N,.string b.R.V.S] 216 (0,0))] []) (fun s=>ji N b s=some r) (fun s hm=>?_) (fun K=>?_)
 ·clear h
  revert hm;revert s;intro s1 hm
  have h:ji N b s1=some r:=hm
  show WT _ _ [(1,pQ i),(16,.bool s1)] (St w0 a [(i,.cells #[.string b.Op,iV b.L.K,.string b.L.S,iV b.L.V.K,iV b.L.V.N,.string b.L.V.S,iV b.R.K,.string b.R.S,iV b.R.V.K,iV b.R.V.N,.string b.R.V.S] 216 (0,0))] [])
  unfold ji at h
  refine ch h J ?_ ?_ <;> intro h
  ·refine atr 4 [1,5] J<|qc h (kK N · b.L ·) J J J fun v h=>la J ?_
   obtain⟨t,c,h⟩:=bs h
   refine WL.cutN 4 [(26,.bool t)] ?_ (fun K=>?_)
   rotate_left
   ·refine sp 22 c J (fun c=>?_) fun c=>?_
    ·refine arr 2 [6,5] J<|ly J J<|qc c (kK N · b.R ·) J J J fun w c=>la J ?_
     cases c
     exact ku K
    ·refine arr 4 [] J ?_
     cases c
     exact ku K
   refine la J<|en ?_
   exact rt m h
  refine att 6 [] J ?_
  exact rt m h
 refine ch h J ?_ ?_ <;> intro h
 ·refine WT.skip ?_
  exact wo [] [0] (K _ h)
 refine att 4 [] J ?_
 exact wo [] [0] (K _ h)
theorem qx (w0:av e a []) (b:cA) (d:RSl bW 11 e l f b.Args) {r:Bool} (h:l6 N b=some r) :
  CB w0 prog 213 [.agg [iV b.Kind,.string b.Name,f,iV b.N,.string b.Undo].toArray] (.bool r):=by
 refine eN func213 J ntmps213 J w0 fun i=>?_
 unfold l6 at h
 refine sr<|lbx J fun t=>arr 7 [1,0] J<|qc h (jq N · b.Name ·) J J J fun z h=>arr 2 [] J ?_
 obtain⟨u,c,h⟩:=bs h
 refine WL.cutN 5 [(14,.bool u),(1,pQ t)] ?_ (fun K=>?_)
 rotate_left
 ·refine sp 9 c J (fun c=>?_) fun c=>?_
  ·refine arr 5 [] J ?_
   cases c
   exact ku K
  ·refine arr 2 [2,0] J<|ly J J<|lnr d J<|arr 2 [] J ?_
   cases c
   exact ku K
 refine en ?_
 refine ch h J ?_ ?_ <;> intro h
 ·refine att 4 [] J ?_
  exact rt i h
 refine atr 6 [2,0] J<|lnr d J<|art 3 [] J ?_
 refine lin (σ:=Int) (fun s=>[(16,f),(17,iV (b.Args.length:Int)),(18,iV s)]) (fun s=>St w0 a [] []) (fun m s=>eJ N b m s=some r) (0) N h (sx [] []) (fun v w s hm=>?_)
 revert hm;revert s;intro s1 hm
 have h:eJ N b (v+1) s1=some r:=hm
 show WT _ _ [(16,f),(17,iV (b.Args.length:Int)),(18,iV s1)] (St w0 a [] [])
 unfold eJ at h
 refine att 5 [] J ?_
 refine ch h J ?_ ?_ <;> intro h
 ·refine atr 5 [] J ?_
  obtain⟨x,q,h⟩:=bs h
  obtain⟨A,B,-,g1,C,D,y⟩:=d.el (aa q).2.2
  obtain⟨rfl,-⟩:=y
  refine lia d q J<|lhx 0 11 g1 J<|lnz sP J fun E=>soN 0 AW J ⟨J,J,J,J,J,J,J,J,J,J,J,trivial⟩ J ?_
  refine arr 4 [11] J<|qc h (zc N · x ·) J J J fun F h=>la J<|en ?_
  refine ch h J ?_ ?_ <;> intro h
  ·refine att 4 [] J ?_
   exact rt i h
  refine att 6 [] J ?_
  exact lb [] [] (w _ h)
 refine att 5 [] J ?_
 exact rt i h
theorem yQ  (w0:av e a []) (c:ByteArray)  {r:Bool} (h:rU N c=some r) :
  CB w0 prog 214 [.string c] (.bool r):=by
 refine eN func214 J ntmps214 J w0 fun d=>?_
 unfold rU at h
 refine atr 9 [] J ?_
 obtain⟨i,b,h⟩:=bs h
 refine WL.cutN 3 [(8,.bool i),(2,.bool false)] ?_ (fun K=>?_)
 rotate_left
 ·refine sp 5 b J (fun b=>?_) fun b=>?_
  ·refine arr 3 [] J ?_
   cases b
   exact ku K
  ·refine ly J J<|la J<|ly J J<|qc b (jq N · c ·) J J J fun m b=>la J ?_
   cases b
   exact ku K
 refine la J<|en ?_
 exact rt d h
theorem AM (w0:av e a []) (b:cA) (C:RSl bW 11 e l f b.Args) {r:Bool} (h:qO N b=some r) :
  CB w0 prog 164 [.agg [iV b.Kind,.string b.Name,f,iV b.N,.string b.Undo].toArray] (.bool r):=by
 refine eN func164 J ntmps164 J w0 fun q=>?_
 unfold qO at h
 refine sr<|lbx J fun c=>arr 8 [1,0] J ?_
 obtain⟨t,u,h⟩:=bs h
 refine WL.cutN 5 [(12,.bool t),(1,pQ c)] ?_ (fun K=>?_)
 rotate_left
 ·refine sp 7 u J (fun u=>?_) fun u=>?_
  ·refine arr 2 [2,0] J<|ly J J<|lnr C J<|arr 2 [] J ?_
   cases u
   exact ku K
  ·refine arr 5 [] J ?_
   cases u
   exact ku K
 refine art 14 [0,0] J ?_
 refine ch h J ?_ ?_ <;> intro h
 ·refine atr 3 [5] J<|qd h (qx N · b C ·) J J J fun Q h=>la J ?_
  obtain⟨D,v,h⟩:=bs h
  refine WL.cutN 4 [(23,.bool D),(1,pQ c)] ?_ (fun K=>?_)
  rotate_left
  ·refine sp 19 v J (fun v=>?_) fun v=>?_
   ·refine arr 4 [3,0] J ?_
    cases v
    exact ku K
   ·refine arr 4 [] J ?_
    cases v
    exact ku K
  refine la J ?_
  obtain⟨E,w,h⟩:=bs h
  refine WL.cutN 4 [(28,.bool E)] ?_ (fun K=>?_)
  rotate_left
  ·refine sp 24 w J (fun w=>?_) fun w=>?_
   ·refine arr 4 [4,0] J ?_
    cases w
    exact ku K
   ·refine arr 4 [] J ?_
    cases w
    exact ku K
  refine la J<|en ?_
  exact rt q h
 refine att 5 [] J ?_
 refine ch h J ?_ ?_ <;> intro h
 ·refine atr 4 [] J ?_
  obtain⟨F,d,h⟩:=bs h
  refine WL.cutN 4 [(36,.bool F),(1,pQ c)] ?_ (fun K=>?_)
  rotate_left
  ·refine sp 32 d J (fun d=>?_) fun d=>?_
   ·refine arr 2 [3,0] J<|ly J J<|qc d (d5 N · b.N 0 7 ·) J J J fun R d=>la J ?_
    cases d
    exact ku K
   ·refine arr 4 [] J ?_
    cases d
    exact ku K
  refine la J ?_
  obtain⟨G,x,h⟩:=bs h
  refine WL.cutN 4 [(41,.bool G)] ?_ (fun K=>?_)
  rotate_left
  ·refine sp 37 x J (fun x=>?_) fun x=>?_
   ·refine arr 4 [4,0] J ?_
    cases x
    exact ku K
   ·refine arr 4 [] J ?_
    cases x
    exact ku K
  refine la J<|en ?_
  exact rt q h
 refine att 5 [] J ?_
 refine ch h J ?_ ?_ <;> intro h
 ·refine atr 3 [5] J<|qd h (qx N · b C ·) J J J fun S h=>la J ?_
  obtain⟨H,y,h⟩:=bs h
  refine WL.cutN 4 [(50,.bool H),(1,pQ c)] ?_ (fun K=>?_)
  rotate_left
  ·refine sp 46 y J (fun y=>?_) fun y=>?_
   ·refine arr 4 [3,0] J ?_
    cases y
    exact ku K
   ·refine arr 4 [] J ?_
    cases y
    exact ku K
  refine la J ?_
  obtain⟨I,i,h⟩:=bs h
  refine WL.cutN 4 [(55,.bool I)] ?_ (fun K=>?_)
  rotate_left
  ·refine sp 51 i J (fun i=>?_) fun i=>?_
   ·refine arr 2 [4,0] J<|ly J J<|qc i (yQ N · b.Undo ·) J J J fun T i=>la J ?_
    cases i
    exact ku K
   ·refine arr 4 [] J ?_
    cases i
    exact ku K
  refine la J<|en ?_
  exact rt q h
 refine att 5 [] J ?_
 refine ch h J ?_ ?_ <;> intro h
 ·refine atr 3 [5] J<|qd h (qx N · b C ·) J J J fun U h=>la J ?_
  obtain⟨L,m,h⟩:=bs h
  refine WL.cutN 4 [(64,.bool L),(1,pQ c)] ?_ (fun K=>?_)
  rotate_left
  ·refine sp 60 m J (fun m=>?_) fun m=>?_
   ·refine arr 2 [3,0] J<|ly J J<|qc m (d5 N · b.N 0 100000 ·) J J J fun V m=>la J ?_
    cases m
    exact ku K
   ·refine arr 4 [] J ?_
    cases m
    exact ku K
  refine la J ?_
  obtain⟨M,z,h⟩:=bs h
  refine WL.cutN 4 [(69,.bool M)] ?_ (fun K=>?_)
  rotate_left
  ·refine sp 65 z J (fun z=>?_) fun z=>?_
   ·refine arr 4 [4,0] J ?_
    cases z
    exact ku K
   ·refine arr 4 [] J ?_
    cases z
    exact ku K
  refine la J<|en ?_
  exact rt q h
 refine att 6 [] J ?_
 refine cut (σ:=Bool) (fun s=>[(1,pQ c),(3,.bool t),(70,.bool s)]) (fun s=>St w0 a [(c,.cells #[iV b.Kind,.string b.Name,f,iV b.N,.string b.Undo] 213 (0,0))] []) (fun s=>kj N b t s=some r) (fun s hm=>?_) (fun K=>?_)
 ·clear h
  revert hm;revert s;intro s1 hm
  have h:kj N b t s1=some r:=hm
  show WT _ _ [(1,pQ c),(3,.bool t),(70,.bool s1)] (St w0 a [(c,.cells #[iV b.Kind,.string b.Name,f,iV b.N,.string b.Undo] 213 (0,0))] [])
  unfold kj at h
  refine ch h J ?_ ?_ <;> intro h
  ·refine atr 4 [] J ?_
   obtain⟨O,A,h⟩:=bs h
   refine WL.cutN 4 [(78,.bool O),(1,pQ c)] ?_ (fun K=>?_)
   rotate_left
   ·refine sp 74 A J (fun A=>?_) fun A=>?_
    ·refine arr 4 [3,0] J ?_
     cases A
     exact ku K
    ·refine arr 4 [] J ?_
     cases A
     exact ku K
   refine la J ?_
   obtain⟨P,B,h⟩:=bs h
   refine WL.cutN 4 [(83,.bool P)] ?_ (fun K=>?_)
   rotate_left
   ·refine sp 79 B J (fun B=>?_) fun B=>?_
    ·refine arr 4 [4,0] J ?_
     cases B
     exact ku K
    ·refine arr 4 [] J ?_
     cases B
     exact ku K
   refine la J<|en ?_
   exact rt q h
  refine att 6 [] J ?_
  exact rt q h
 refine ch h J ?_ ?_ <;> intro h
 ·refine WT.skip ?_
  exact wo [] [0] (K _ h)
 refine att 4 [] J ?_
 exact wo [] [0] (K _ h)
theorem o3 (w0:av e a []) (b:(List ByteArray)) (c:ByteArray) (d:RSl RS 1 e a1 g b) {r:Int} (h:dd N b c=some r) :
  CB w0 prog 216 [g,.string c] (iV r):=by
 refine eN func216 J ntmps216 J w0 fun i=>?_
 unfold dd at h
 refine atr 8 [] J<|lnr d J<|art 3 [] J ?_
 refine lin (σ:=Int) (fun s=>[(0,g),(1,.string c),(7,iV (b.length:Int)),(8,iV s)]) (fun s=>St w0 a [] []) (fun m s=>bu N b c m s=some r) (0) N h (sx [] []) (fun t u s hm=>?_)
 revert hm;revert s;intro s1 hm
 have h:bu N b c (t+1) s1=some r:=hm
 show WT _ _ [(0,g),(1,.string c),(7,iV (b.length:Int)),(8,iV s1)] (St w0 a [] [])
 unfold bu at h
 refine att 5 [] J ?_
 refine ch h J ?_ ?_ <;> intro h
 ·refine atr 13 [] J ?_
  obtain⟨w,q,h⟩:=bs h
  obtain⟨x,y,-,g1,z,A,v⟩:=d.el (aa q).2.2
  obtain⟨rfl,-⟩:=v
  refine lia d q J<|lhx 0 0 g1 J<|la J<|en ?_
  refine ch h J ?_ ?_ <;> intro h
  ·refine att 5 [] J ?_
   exact rt i h
  refine att 6 [] J ?_
  exact lb [] [] (u _ h)
 refine att 5 [] J ?_
 exact rt i h
theorem iu (w0:av e a []) (b:(List ByteArray)) (c:ByteArray) (d:RSl RS 1 e a1 g b) {r:Bool} (h:bX N b c=some r) :
  CB w0 prog 168 [g,.string c] (.bool r):=by
 refine eN func168 J ntmps168 J w0 fun i=>?_
 unfold bX at h
 refine atr 8 [] J<|qd h (o3 N · b c d ·) J J J fun m h=>art 3 [] J ?_
 exact rt i h
theorem yA (w0:av e a [ob g].flatten) (i:(List ByteArray)) (b:ByteArray) (d:OSl RS 9 1 a [] g i) {r:(List ByteArray)} (h:nq N i b=some r) :
  Calls prog 239 [g,.string b].toArray w0.w (be a w0.w [ob g].flatten (fun s Fs v=>∃ (m:Value),v=m∧Fs=[ob m]∧OSl RS 9 1 s [] m r)):=by
 refine eL func239 J ntmps239 J (L:=[ob g]) w0 (fun q=>?_)
 unfold nq at h
 refine atr 9 [] J<|qc h (iu N · i b d.rsl ·) J J J fun A h=>en ?_
 refine ch h J ?_ ?_ <;> intro h
 ·refine att 5 [] J ?_
  exact rtg [0] q (aA.one J) J (by cases h;exact fun t hw=>⟨g,rfl,rfl,d⟩)
 refine atr 5 [] J ?_
 have u:RC RS 1 a ([[]]:List (List Nat)) [.string b] ([b]:List ByteArray):=RC.cons (c:=[.string b]) (cells:=[]) ⟨J,J⟩ J (RC.nil _ _ _)
 refine le' (aQ (vs:=[(0,.string b)]) (C:=#[.string b]) RS.lasts eE ot J J J J (ac Cx (a7 (C':=[.string b]) J J J J J (ab))) J u J (by simpa using Kw.nil)) J ?_
 rintro v1 w B ⟨x,h1⟩
 replace h1:OSl RS 9 1 w [] v1 ([b]:List ByteArray):=by simpa using h1
 replace d:=d.f0 x
 obtain⟨D,y,h⟩:=bs h
 refine le' (bg RS.lasts RS.one RS.flat eE Jx J J J J J (js:=[1]) (Rr:=[ob v1]) J d h1.rsl y) J ?_
 rintro v2 E F ⟨⟨G,H⟩,z⟩
 refine la J<|en ?_
 exact rtg [0] q (aA.one J) J (by cases h;exact fun t hw=>⟨v2,rfl,rfl,z⟩)
theorem pt (w0:av e a [ob g].flatten) (i:(List ByteArray)) (c:(List bn)) (y:OSl RS 9 1 a [] g i) (t:RSl bV 5 e a6 n c) {r:(List ByteArray)} (h:jJ N i c=some r) :
  Calls prog 215 [g,n].toArray w0.w (be a w0.w [ob g].flatten (fun A Fs v=>∃ (u:Value),v=u∧Fs=[ob u]∧OSl RS 9 1 A [] u r)):=by
 refine eL func215 J ntmps215 J (L:=[ob g]) w0 (fun B=>?_)
 unfold jJ at h
 refine atr 8 [] J<|lnr t J<|art 3 [] J ?_
 refine lin (σ:=Hp × (List ByteArray) × Value × Int) (fun s=>[(0,s.2.2.1),(7,n),(8,iV (c.length:Int)),(9,iV s.2.2.2)]) (fun s=>St w0 s.1 [] [ob s.2.2.1]) (fun m s=>fm N c m s.2.1 s.2.2.2=some r∧(OSl RS 9 1 s.1 [] s.2.2.1 s.2.1)) (a,i,g,0) N ⟨h,y⟩ (sx [0] []) (fun F w s hm=>?_)
 obtain⟨G,s1,C,s2⟩:=s
 obtain⟨h,d⟩:=hm
 dsimp only at h d ⊢
 unfold fm at h
 refine att 5 [] J ?_
 refine ch h J ?_ ?_ <;> intro h
 ·refine atr 5 [] J ?_
  obtain⟨D,x,h⟩:=bs h
  obtain⟨H,I,-,g1,K,M,E⟩:=t.el (aa x).2.2
  obtain⟨rfl,-⟩:=E
  refine lia t x J<|lhx 0 5 g1 J<|lnz fS J fun O=>soN 0 gL J ⟨J,J,J,J,J,trivial⟩ J ?_
  refine art 7 [0,0] J ?_
  refine ch h J ?_ ?_ <;> intro h
  ·refine atr 4 [1,0] J<|kcb [0] h J J J J (fun b ap z q=>yA N b s1 D.S d q) ?_
   rintro P h v1 Q R ⟨S,T,v2,rfl,rfl,h1⟩
   refine art 7 [] J ?_
   exact lb [0] [] (w (_,_,_,_) ⟨h,h1⟩)
  refine att 6 [] J ?_
  exact lb [0] [] (w (_,_,_,_) ⟨h,d⟩)
 refine att 6 [] J ?_
 exact rtg [0] B (aA.one J) J (by cases h;exact fun U hw=>⟨C,rfl,rfl,d⟩)
theorem xF (w0:av e a []) (c:ai) (i:RSl bN 3 e l f c.Pats) (G:RSl bl 11 e o k c.Conds) (H:RSl dK 5 e p j c.Acts) {r:(List ByteArray)} (h:lF N c=some r) :
  Calls prog 166 [.agg [.string c.Name,iV c.Sal,f,k,j].toArray].toArray w0.w (be a w0.w [] (fun x Fs v=>∃ (t:Value),v=t∧Fs=[ob t]∧OSl RS 9 1 x [] t r)):=by
 refine eN func166 J ntmps166 J w0 fun y=>?_
 unfold lF at h
 refine sr<|lbx J fun I=>arr 11 [2,0] J<|lnr i J<|art 3 [] J<|wtS ?_
 have A:=OSl.nil RS 9 1 a
 refine lin (σ:=Hp × (List ByteArray) × Value × Int) (fun s=>[(3,s.2.2.1),(7,f),(8,iV (c.Pats.length:Int)),(9,iV s.2.2.2)]) (fun s=>St w0 s.1 [] [ob s.2.2.1]) (fun m s=>fb N c m s.2.1 s.2.2.2=some r∧(OSl RS 9 1 s.1 [] s.2.2.1 s.2.1)) (a,([]:List ByteArray),(.slice none 0 0),0) N ⟨h,A⟩ (sx [0] []) (fun K u s hm=>?_)
 obtain⟨L,s1,B,s2⟩:=s
 obtain⟨h,d⟩:=hm
 dsimp only at h d ⊢
 unfold fb at h
 refine att 5 [] J ?_
 refine ch h J ?_ ?_ <;> intro h
 ·refine atr 5 [] J ?_
  obtain⟨C,w,h⟩:=bs h
  obtain⟨M,O,-,g1,P,Q,D⟩:=i.el (aa w).2.2
  obtain⟨v1,R,rfl,E,h1⟩:=D
  obtain rfl:=E.symm
  refine lia i w J<|lhx 0 3 g1 J<|lnz jB J fun S=>soN 0 o1 J ⟨J,h1.one,J,trivial⟩ J ?_
  refine art 7 [2,0] J ?_
  refine ch h J ?_ ?_ <;> intro h
  ·refine atr 4 [1,0] J<|kcb [0] h J J J J (fun b ap z q=>pt N b s1 C.Args d (h1.y z) q) ?_
   rintro T h v2 U V ⟨W,X,v3,rfl,rfl,F⟩
   refine art 7 [] J ?_
   exact lb [0] [] (u (_,_,_,_) ⟨h,F⟩)
  refine att 6 [] J ?_
  exact lb [0] [] (u (_,_,_,_) ⟨h,d⟩)
 refine att 6 [] J ?_
 exact rtg [0] y (aA.one J) J (by cases h;exact fun Y hw=>⟨B,rfl,rfl,d⟩)
theorem wB (w0:av e a []) (t:ai) (an:RSl bN 3 e l f t.Pats) (y:RSl bl 11 e o k t.Conds) (A:RSl dK 5 e p j t.Acts) {r:(List ByteArray)} (h:m5 N t=some r) :
  Calls prog 167 [.agg [.string t.Name,iV t.Sal,f,k,j].toArray].toArray w0.w (be a w0.w [] (fun P Fs v=>∃ (B:Value),v=B∧Fs=[ob B]∧OSl RS 9 1 P [] B r)):=by
 refine eN func167 J ntmps167 J w0 fun Q=>?_
 unfold m5 at h
 refine sr<|lbx J fun F=>arr 11 [3,0] J<|lnr y J<|art 3 [] J<|wtS ?_
 have R:=OSl.nil RS 9 1 a
 refine lin (σ:=Hp × (List ByteArray) × Value × Int) (fun s=>[(1,pQ F),(3,s.2.2.1),(11,k),(12,iV (t.Conds.length:Int)),(13,iV s.2.2.2)]) (fun s=>St w0 s.1 [(F,.cells #[.string t.Name,iV t.Sal,f,k,j] 87 (0,0))] [ob s.2.2.1]) (fun m s=>fJ N t m s.2.1 s.2.2.2=some r∧(OSl RS 9 1 s.1 [] s.2.2.1 s.2.1)) (a,([]:List ByteArray),(.slice none 0 0),0) N ⟨h,R⟩ (sx [0] [0]) (fun n1 S s hm=>?_)
 obtain⟨G,s1,T,s2⟩:=s
 obtain⟨h,u⟩:=hm
 dsimp only at h u ⊢
 unfold fJ at h
 refine att 5 [] J ?_
 refine ch h J ?_ ?_ <;> intro h
 ·refine atr 5 [] J ?_
  obtain⟨d,H,h⟩:=bs h
  obtain⟨ao,F1,-,g1,aq,au,U⟩:=y.el (aa H).2.2
  obtain⟨rfl,-⟩:=U
  refine lia y H J<|lhx 0 11 g1 J<|lnz qw J fun aw=>soN 0 vu J ⟨J,J,J,J,J,J,J,J,J,J,J,trivial⟩ J ?_
  refine arr 7 [1,5,6,5] J ?_
  have V:RC bV 5 G ([[],[]]:List (List Nat)) [iV d.L.K,.string d.L.S,iV d.L.V.K,iV d.L.V.N,.string d.L.V.S,iV d.R.K,.string d.R.S,iV d.R.V.K,iV d.R.V.N,.string d.R.V.S] ([d.L,d.R]:List bn):=RC.cons (c:=[iV d.L.K,.string d.L.S,iV d.L.V.K,iV d.L.V.N,.string d.L.V.S]) (cells:=[iV d.R.K,.string d.R.S,iV d.R.V.K,iV d.R.V.N,.string d.R.V.S]) ⟨J,J⟩ J (RC.cons (c:=[iV d.R.K,.string d.R.S,iV d.R.V.K,iV d.R.V.N,.string d.R.V.S]) (cells:=[]) ⟨J,J⟩ J (RC.nil _ _ _))
  refine le' (aQ (vs:=[(0,.agg [iV d.L.K,.string d.L.S,iV d.L.V.K,iV d.L.V.N,.string d.L.V.S].toArray),(1,.agg [iV d.R.K,.string d.R.S,iV d.R.V.K,iV d.R.V.N,.string d.R.V.S].toArray)]) (C:=#[iV d.L.K,.string d.L.S,iV d.L.V.K,iV d.L.V.N,.string d.L.V.S,iV d.R.K,.string d.R.S,iV d.R.V.K,iV d.R.V.N,.string d.R.V.S]) bV.lasts nY fS J J J J (ac Bd (a7 (C':=[iV d.L.K,.string d.L.S,iV d.L.V.K,iV d.L.V.N,.string d.L.V.S,iV 0,.string ⟨#[]⟩,iV 0,iV 0,.string ⟨#[]⟩]) J J J J J (a7 (C':=[iV d.L.K,.string d.L.S,iV d.L.V.K,iV d.L.V.N,.string d.L.V.S,iV d.R.K,.string d.R.S,iV d.R.V.K,iV d.R.V.N,.string d.R.V.S]) J J J J J (ab)))) J V J (by simpa using Kw.nil)) J ?_
  rintro v1 W D1 ⟨X,h1⟩
  replace h1:OSl bV 171 5 W [] v1 ([d.L,d.R]:List bn):=by simpa using h1
  replace u:=u.f0 X
  refine kcb [1] h J J J J (fun b ap z q=>pt N b s1 ([d.L,d.R]:List bn) u (h1.rsl.x (Dj.app (ap.q 0 J) dN)) q) ?_
  rintro x2 h v2 ax F2 ⟨ay,az,v3,rfl,rfl,Y⟩
  refine art 7 [] J ?_
  exact lb [0] [1] (S (_,_,_,_) ⟨h,Y⟩)
 refine atr 6 [4,0] J<|lnr A J<|art 3 [] J ?_
 refine lin (σ:=Hp × (List ByteArray) × Value × Int) (fun s=>[(3,s.2.2.1),(26,j),(27,iV (t.Acts.length:Int)),(28,iV s.2.2.2)]) (fun s=>St w0 s.1 [] [ob s.2.2.1]) (fun m s=>d7 N t m s.2.1 s.2.2.2=some r∧(OSl RS 9 1 s.1 [] s.2.2.1 s.2.1)) (G,s1,T,0) N ⟨h,u⟩ (sx [0] []) (fun Z a8 s hm=>?_)
 obtain⟨ae,s3,I,K⟩:=s
 obtain⟨h,D⟩:=hm
 dsimp only at h D ⊢
 unfold d7 at h
 refine att 5 [] J ?_
 refine ch h J ?_ ?_ <;> intro h
 ·refine atr 5 [] J ?_
  obtain⟨L,M,h⟩:=bs h
  obtain⟨aB,F3,-,g2,aC,aD,r2⟩:=A.el (aa M).2.2
  obtain⟨v4,G1,rfl,af,x⟩:=r2
  obtain rfl:=af.symm
  refine lia A M J<|lhx 0 5 g2 J<|lnz pe J fun aE=>soN 0 rX J ⟨J,J,x.one,J,J,trivial⟩ J ?_
  refine arr 5 [2,0] J<|lnr x J<|art 3 [] J ?_
  refine lin (σ:=Hp × (List ByteArray) × Value × Int) (fun s=>[(3,s.2.2.1),(26,j),(27,iV (t.Acts.length:Int)),(28,iV K),(33,v4),(34,iV (L.Args.length:Int)),(35,iV s.2.2.2)]) (fun s=>St w0 s.1 [] [ob s.2.2.1]) (fun m s=>eC N K (d7 N t Z) L m s.2.1 s.2.2.2=some r∧(OSl RS 9 1 s.1 [] s.2.2.1 s.2.1)) (ae,s3,I,0) N ⟨h,D⟩ (sx [0] []) (fun n3 ag s hm=>?_)
  obtain⟨ah,s5,u3,s6⟩:=s
  obtain⟨h,w⟩:=hm
  dsimp only at h w ⊢
  unfold eC at h
  refine att 5 [] J ?_
  refine ch h J ?_ ?_ <;> intro h
  ·refine atr 5 [] J ?_
   obtain⟨i,O,h⟩:=bs h
   obtain⟨aF,F4,-,g3,aG,aH,r3⟩:=x.el (aa O).2.2
   obtain⟨rfl,-⟩:=r3
   refine lia x O J<|lhx 0 11 g3 J<|lnz sP J fun aI=>soN 0 AW J ⟨J,J,J,J,J,J,J,J,J,J,J,trivial⟩ J ?_
   refine arr 7 [1,5,6,5] J ?_
   have aj:RC bV 5 ah ([[],[]]:List (List Nat)) [iV i.L.K,.string i.L.S,iV i.L.V.K,iV i.L.V.N,.string i.L.V.S,iV i.R.K,.string i.R.S,iV i.R.V.K,iV i.R.V.N,.string i.R.V.S] ([i.L,i.R]:List bn):=RC.cons (c:=[iV i.L.K,.string i.L.S,iV i.L.V.K,iV i.L.V.N,.string i.L.V.S]) (cells:=[iV i.R.K,.string i.R.S,iV i.R.V.K,iV i.R.V.N,.string i.R.V.S]) ⟨J,J⟩ J (RC.cons (c:=[iV i.R.K,.string i.R.S,iV i.R.V.K,iV i.R.V.N,.string i.R.V.S]) (cells:=[]) ⟨J,J⟩ J (RC.nil _ _ _))
   refine le' (aQ (vs:=[(0,.agg [iV i.L.K,.string i.L.S,iV i.L.V.K,iV i.L.V.N,.string i.L.V.S].toArray),(1,.agg [iV i.R.K,.string i.R.S,iV i.R.V.K,iV i.R.V.N,.string i.R.V.S].toArray)]) (C:=#[iV i.L.K,.string i.L.S,iV i.L.V.K,iV i.L.V.N,.string i.L.V.S,iV i.R.K,.string i.R.S,iV i.R.V.K,iV i.R.V.N,.string i.R.V.S]) bV.lasts nY fS J J J J (ac Bd (a7 (C':=[iV i.L.K,.string i.L.S,iV i.L.V.K,iV i.L.V.N,.string i.L.V.S,iV 0,.string ⟨#[]⟩,iV 0,iV 0,.string ⟨#[]⟩]) J J J J J (a7 (C':=[iV i.L.K,.string i.L.S,iV i.L.V.K,iV i.L.V.N,.string i.L.V.S,iV i.R.K,.string i.R.S,iV i.R.V.K,iV i.R.V.N,.string i.R.V.S]) J J J J J (ab)))) J aj J (by simpa using Kw.nil)) J ?_
   rintro v5 ak D2 ⟨al,E⟩
   replace E:OSl bV 171 5 ak [] v5 ([i.L,i.R]:List bn):=by simpa using E
   replace w:=w.f0 al
   refine kcb [1] h J J J J (fun b ap z q=>pt N b s5 ([i.L,i.R]:List bn) w (E.rsl.x (Dj.app (ap.q 0 J) dN)) q) ?_
   rintro x5 h v6 aJ F5 ⟨aK,aL,v7,rfl,rfl,h5⟩
   refine art 7 [] J ?_
   exact lb [0] [] (ag (_,_,_,_) ⟨h,h5⟩)
  refine att 6 [] J ?_
  exact lb [0] [] (a8 (_,_,_,_) ⟨h,w⟩)
 refine att 6 [] J ?_
 exact rtg [0] Q (aA.one J) J (by cases h;exact fun w1 hw=>⟨I,rfl,rfl,D⟩)
theorem yO (w0:av e a []) (c:ai) (E:RSl bN 3 e l f c.Pats) (u:RSl bl 11 e o k c.Conds) (v:RSl dK 5 e p j c.Acts) {r:Bool} (h:pR N c=some r) :
  CB w0 prog 98 [.agg [.string c.Name,iV c.Sal,f,k,j].toArray] (.bool r):=by
 refine eN func98 J ntmps98 J w0 fun C=>?_
 unfold pR at h
 refine sr<|lbx J fun t=>arr 7 [0,0] J<|qc h (jq N · c.Name ·) J J J fun x1 h=>arr 2 [] J ?_
 obtain⟨U,y,h⟩:=bs h
 refine WL.cutN 5 [(19,.bool U),(1,pQ t)] ?_ (fun K=>?_)
 rotate_left
 ·refine sp 14 y J (fun y=>?_) fun y=>?_
  ·refine arr 5 [] J ?_
   cases y
   exact ku K
  ·refine arr 2 [1,0] J<|ly J J<|qc y (d5 N · c.Sal (-100) 100 ·) J J J fun x2 y=>arr 2 [] J ?_
   cases y
   exact ku K
 refine la J ?_
 obtain⟨V,A,h⟩:=bs h
 refine WL.cutN 4 [(24,.bool V),(1,pQ t)] ?_ (fun K=>?_)
 rotate_left
 ·refine sp 20 A J (fun A=>?_) fun A=>?_
  ·refine arr 4 [] J ?_
   cases A
   exact ku K
  ·refine ly J J<|ld5 o7 0 J<|ly J J<|qd A (yF N · c E u v ·) J J J fun x3 A=>arr 2 [] J ?_
   cases A
   exact ku K
 refine en ?_
 refine ch h J ?_ ?_ <;> intro h
 ·refine att 4 [] J ?_
  exact rt C h
 refine atr 6 [3,0] J<|lnr u J<|arr 2 [] J ?_
 obtain⟨W,B,h⟩:=bs h
 refine WL.cutN 6 [(35,.bool W),(1,pQ t)] ?_ (fun K=>?_)
 rotate_left
 ·refine sp 29 B J (fun B=>?_) fun B=>?_
  ·refine arr 6 [] J ?_
   cases B
   exact ku K
  ·refine arr 2 [4,0] J<|ly J J<|lnr v J<|ly J J<|qc B (d5 N · (c.Acts.length:Int) 1 6 ·) J J J fun x4 B=>arr 2 [] J ?_
   cases B
   exact ku K
 refine en ?_
 refine ch h J ?_ ?_ <;> intro h
 ·refine att 4 [] J ?_
  exact rt C h
 refine atr 6 [3,0] J<|lnr u J<|art 3 [] J ?_
 refine lin (σ:=Int) (fun s=>[(1,pQ t),(37,k),(38,iV (c.Conds.length:Int)),(39,iV s)]) (fun s=>St w0 a [(t,.cells #[.string c.Name,iV c.Sal,f,k,j] 87 (0,0))] []) (fun m s=>eY N c m s=some r) (0) N h (sx [] [0]) (fun X Y s hm=>?_)
 revert hm;revert s;intro s1 hm
 have h:eY N c (X+1) s1=some r:=hm
 show WT _ _ [(1,pQ t),(37,k),(38,iV (c.Conds.length:Int)),(39,iV s1)] (St w0 a [(t,.cells #[.string c.Name,iV c.Sal,f,k,j] 87 (0,0))] [])
 unfold eY at h
 refine att 5 [] J ?_
 refine ch h J ?_ ?_ <;> intro h
 ·refine atr 5 [] J ?_
  obtain⟨Z,O,h⟩:=bs h
  obtain⟨ak,F1,-,g1,al,an,r1⟩:=u.el (aa O).2.2
  obtain⟨rfl,-⟩:=r1
  refine lia u O J<|lhx 0 11 g1 J<|lnz qw J fun ao=>soN 0 vu J ⟨J,J,J,J,J,J,J,J,J,J,J,trivial⟩ J ?_
  refine arr 4 [11] J<|qc h (yS N · Z ·) J J J fun x6 h=>la J<|en ?_
  refine ch h J ?_ ?_ <;> intro h
  ·refine att 4 [] J ?_
   exact rt C h
  refine att 6 [] J ?_
  exact lb [] [1] (Y _ h)
 refine atr 6 [4,0] J<|lnr v J<|art 3 [] J ?_
 refine lin (σ:=Int) (fun s=>[(1,pQ t),(48,j),(49,iV (c.Acts.length:Int)),(50,iV s)]) (fun s=>St w0 a [(t,.cells #[.string c.Name,iV c.Sal,f,k,j] 87 (0,0))] []) (fun m s=>f9 N c m s=some r) (0) N h (sx [] [0]) (fun n2 a7 s hm=>?_)
 revert hm;revert s;intro s2 hm
 have h:f9 N c (n2+1) s2=some r:=hm
 show WT _ _ [(1,pQ t),(48,j),(49,iV (c.Acts.length:Int)),(50,iV s2)] (St w0 a [(t,.cells #[.string c.Name,iV c.Sal,f,k,j] 87 (0,0))] [])
 unfold f9 at h
 refine att 5 [] J ?_
 refine ch h J ?_ ?_ <;> intro h
 ·refine atr 5 [] J ?_
  obtain⟨D,P,h⟩:=bs h
  obtain⟨aq,F2,-,g2,au,aw,r2⟩:=v.el (aa P).2.2
  obtain⟨v1,G1,rfl,a8,h1⟩:=r2
  obtain rfl:=a8.symm
  refine lia v P J<|lhx 0 5 g2 J<|lnz pe J fun ax=>soN 0 rX J ⟨J,J,h1.one,J,J,trivial⟩ J ?_
  refine en<|sq<|WT.draw mixed MA (fun _ h=>h.drew)<|qq (aC ym J (fun Q hw=>hw.rgO (i:=0) J 0 5 [iV D.Kind,.string D.Name,v1,iV D.N,.string D.Undo] J) J) J ?_
  obtain⟨x8,ab,h⟩:=bs h
  refine qp (cK HL J (fun Q hw=>AM N (ba hw.in0) D h1 ab)) J<|aqq 2 [] J ?_
  obtain⟨b4,w,h⟩:=bs h
  refine WQ.cutN 11 [(68,.bool b4),(1,pQ t),(48,j),(49,iV (c.Acts.length:Int)),(50,iV s2)] ?_ (fun K=>?_)
  rotate_left
  ·refine WQ.split (d:=57) J (fun G=>?_) (fun G=>?_)
   ·replace w:=fR w G
    refine aqq 11 [] J ?_
    cases w
    exact kq K
   ·replace w:=fO w G
    refine aqq 4 [0,0] J ?_
    obtain⟨b5,x,w⟩:=bs w
    refine WQ.cutN 6 [(67,.bool b5),(1,pQ t),(48,j),(49,iV (c.Acts.length:Int)),(50,iV s2),(57,.bool false)] ?_ (fun K=>?_)
    rotate_left
    ·refine WQ.split (d:=61) J (fun H=>?_) (fun H=>?_)
     ·replace x:=fR x H
      refine aqq 3 [3,0,37] J<|WQ.yes J J ?_
      obtain⟨x9,ae,x⟩:=bs x
      refine qp (cK E0 J (fun Q hw=>nV N (ba hw.in0) c E u v ae)) J<|aqq 2 [] J ?_
      cases x
      exact kq K
     ·replace x:=fO x H
      refine aqq 6 [] J ?_
      cases x
      exact kq K
    refine WQ.q (qh J J) J J J ?_
    cases w
    exact kq K
  refine WQ.nil ?_
  refine ch h J ?_ ?_ <;> intro h
  ·refine att 4 [] J ?_
   exact rt C h
  refine att 6 [] J ?_
  exact lb [] [1] (a7 _ h)
 refine atr 4 [5] J<|kab h J J J (fun b z q=>xF N b c (E.y z) (u.y z) (v.y z) q) ?_
 rintro I h v2 ay F3 ⟨az,aA,v3,rfl,rfl,L⟩
 refine arr 6 [5] J<|kab h J J J (fun b z q=>wB N b c (E.y z) (u.y z) (v.y z) q) ?_
 rintro F h v4 R F4 ⟨af,ag,v5,rfl,rfl,M⟩
 replace L:=L.fr ag (af.q 0 J) dN
 refine lno M J<|art 3 [] J ?_
 refine lin (σ:=Int) (fun s=>[(7,v2),(73,v4),(74,iV (F.length:Int)),(75,iV s)]) (fun s=>St w0 R [] [ob v4,ob v2]) (fun m s=>eP N I F m s=some r) (0) N h (sx [0,0] []) (fun n3 ah s hm=>?_)
 revert hm;revert s;intro S hm
 have h:eP N I F (n3+1) S=some r:=hm
 show WT _ _ [(7,v2),(73,v4),(74,iV (F.length:Int)),(75,iV S)] (St w0 R [] [ob v4,ob v2])
 unfold eP at h
 refine att 5 [] J ?_
 refine ch h J ?_ ?_ <;> intro h
 ·refine atr 5 [] J ?_
  obtain⟨aj,T,h⟩:=bs h
  obtain⟨aB,F5,-,g3,aD,aE,r3⟩:=M.elS (aa T).2.2
  obtain⟨rfl,-⟩:=r3
  refine lio M T J<|lgx 0 0 g3 J<|arr 6 [] J<|qc h (iu N · I aj L.rsl ·) J J J fun aF h=>la J<|en ?_
  refine ch h J ?_ ?_ <;> intro h
  ·refine att 4 [] J ?_
   exact rt C h
  refine att 6 [] J ?_
  exact lb [0,0] [] (ah _ h)
 refine att 5 [] J ?_
 exact rt C h
theorem lZ {d:Nat} {q:List Value} (w0:av e a []) (b:(List ai)) (t:ai→Option (Bool)) (u:RSl cr 5 e a1 g b) (A:Fun prog d=true) (B:∀ {i:Hp} {w':World},FrH [] a i→In i w'→∀ (c:ai) {v:Value} {C:List Nat} {w:Value} {D:List Nat} {x:Value} {E:List Nat} (_:RSl bN 3 i C v c.Pats) (_:RSl bl 11 i D w c.Conds) (_:RSl dK 5 i E x c.Acts) {r:Bool},t c=some r→Calls prog d (([.agg [.string c.Name,iV c.Sal,v,w,x].toArray]:List Value)++q).toArray w' (pV (.bool r) w')) {r:Int} (h:dl N b t=some r) :
  CB w0 prog 169 [g,.func (.func d) #[] q.toArray] (iV r):=by
 refine eN func169 J ntmps169 J w0 fun y=>?_
 unfold dl at h
 refine atr 8 [] J<|lnr u J<|art 3 [] J ?_
 refine lin (σ:=Int) (fun s=>[(0,g),(1,.func (.func d) #[] q.toArray),(7,iV (b.length:Int)),(8,iV s)]) (fun s=>St w0 a [] []) (fun m s=>bf N b t m s=some r) (0) N h (sx [] []) (fun F G s hm=>?_)
 revert hm;revert s;intro s1 hm
 have h:bf N b t (F+1) s1=some r:=hm
 show WT _ _ [(0,g),(1,.func (.func d) #[] q.toArray),(7,iV (b.length:Int)),(8,iV s1)] (St w0 a [] [])
 unfold bf at h
 refine att 5 [] J ?_
 refine ch h J ?_ ?_ <;> intro h
 ·refine atr 13 [] J ?_
  obtain⟨H,z,h⟩:=bs h
  obtain⟨O,P,-,g1,Q,R,I⟩:=u.el (aa z).2.2
  obtain⟨v1,S,v2,T,v3,U,rfl,rfl,h1,K,L⟩:=I
  refine lia u z J<|lhx 0 5 g1 J ?_
  obtain⟨V,M,h⟩:=bs h
  refine lp (th A J J (fun W hw=>B hw.frB hw.fro H (h1.y hw.up) (K.y hw.up) (L.y hw.up) M)) J<|en ?_
  refine ch h J ?_ ?_ <;> intro h
  ·refine att 5 [] J ?_
   exact rt y h
  refine att 6 [] J ?_
  exact lb [] [] (G _ h)
 refine att 5 [] J ?_
 exact rt y h
theorem vW (w0:av e a []) (b:ai) (c:ByteArray) (m:RSl bN 3 e l f b.Pats) (q:RSl bl 11 e o k b.Conds) (s:RSl dK 5 e p j b.Acts) (d:e ad=some (.cells #[.string c] 9 (0,0))) {r:Bool} (h:jv N b c=some r) :
  CB w0 prog 170 [.agg [.string b.Name,iV b.Sal,f,k,j].toArray,pQ ad] (.bool r):=by
 refine eN func170 J ntmps170 J w0 fun i=>?_
 unfold jv at h
 refine sr<|lbx J fun t=>arr 6 [0,0] J<|lhx 0 0 (bZ d) J<|art 3 [] J ?_
 exact rt i h
theorem yN (w0:av e a []) (c:bo) (d:ByteArray) (i:RSl cr 5 e l f c.Rules) {r:Int} (h:oS N c d=some r) :
  CB w0 prog 99 [.agg [.string c.Name,f].toArray,.string d] (iV r):=by
 refine eN func99 J ntmps99 J w0 fun m=>?_
 unfold oS at h
 refine sr<|lbx J fun s=>?_
 refine ln (w5 (C:=#[.string d]) J (J)) J (fun x=>?_)
 refine arr 6 [1,32] J ?_
 refine WL.frz (js:=[0]) (R:=[(s,.cells #[.string c.Name,f] 26 (0,0))]) J (fun y A t=>?_)
 refine lq (CR J) J<|qz h (fun b z q=>lZ N b c.Rules (fun a0=>jv N a0 d) (i.y z) Iw (fun u v a0=>fun f0 f1 f2=>fun w=>vW N (ba v) a0 d f0 f1 f2 (u _ _ MC t) w) q) J J J fun B h=>la J<|en ?_
 exact rt m h
theorem Au (w0:av e a []) (b:bo) (q:RSl cr 5 e l f b.Rules) {r:Bool} (h:rq N b=some r) :
  CB w0 prog 40 [.agg [.string b.Name,f].toArray] (.bool r):=by
 refine eN func40 J ntmps40 J w0 fun t=>?_
 unfold rq at h
 refine sr<|lbx J fun i=>arr 7 [0,0] J<|qc h (jq N · b.Name ·) J J J fun D h=>arr 2 [] J ?_
 obtain⟨y,c,h⟩:=bs h
 refine WL.cutN 6 [(15,.bool y),(1,pQ i)] ?_ (fun K=>?_)
 rotate_left
 ·refine sp 9 c J (fun c=>?_) fun c=>?_
  ·refine arr 6 [] J ?_
   cases c
   exact ku K
  ·refine arr 2 [1,0] J<|ly J J<|lnr q J<|ly J J<|qc c (d5 N · (b.Rules.length:Int) 1 12 ·) J J J fun E c=>arr 2 [] J ?_
   cases c
   exact ku K
 refine en ?_
 refine ch h J ?_ ?_ <;> intro h
 ·refine att 4 [] J ?_
  exact rt t h
 refine atr 6 [1,0] J<|lnr q J<|art 3 [] J ?_
 refine lin (σ:=Int) (fun s=>[(1,pQ i),(17,f),(18,iV (b.Rules.length:Int)),(19,iV s)]) (fun s=>St w0 a [(i,.cells #[.string b.Name,f] 26 (0,0))] []) (fun m s=>fV N b m s=some r) (0) N h (sx [] [0]) (fun z A s hm=>?_)
 revert hm;revert s;intro s1 hm
 have h:fV N b (z+1) s1=some r:=hm
 show WT _ _ [(1,pQ i),(17,f),(18,iV (b.Rules.length:Int)),(19,iV s1)] (St w0 a [(i,.cells #[.string b.Name,f] 26 (0,0))] [])
 unfold fV at h
 refine att 5 [] J ?_
 refine ch h J ?_ ?_ <;> intro h
 ·refine atr 6 [] J ?_
  obtain⟨u,v,h⟩:=bs h
  obtain⟨F,G,-,g1,H,I,B⟩:=q.el (aa v).2.2
  obtain⟨v1,L,v2,M,v3,O,rfl,rfl,h1,w,x⟩:=B
  refine lia q v J<|lhx 0 5 g1 J<|lnz sU J fun P=>la J<|soN 0 tZ J ⟨J,J,h1.one,w.one,x.one,trivial⟩ J ?_
  refine arr 4 [5] J<|qd h (yO N · u h1 w x ·) J J J fun Q h=>arr 2 [] J ?_
  obtain⟨C,d,h⟩:=bs h
  refine WL.cutN 7 [(34,.bool C),(1,pQ i),(17,f),(18,iV (b.Rules.length:Int)),(19,iV s1)] ?_ (fun K=>?_)
  rotate_left
  ·refine sp 27 d J (fun d=>?_) fun d=>?_
   ·refine arr 7 [] J ?_
    cases d
    exact ku K
   ·refine arr 3 [34,0,0] J<|ly J J<|qd d (yN N · b u.Name q ·) J J J fun R d=>arr 3 [] J ?_
    cases d
    exact ku K
  refine en ?_
  refine ch h J ?_ ?_ <;> intro h
  ·refine att 4 [] J ?_
   exact rt t h
  refine att 6 [] J ?_
  exact lb [] [1] (A _ h)
 refine att 5 [] J ?_
 exact rt t h
theorem ze (w0:av e a []) (b:aH) (d:RSl aX 3 e l f b.Fields) {r:Bool} (h:oJ N b=some r) :
  CB w0 prog 63 [.agg [.string b.Kind,f].toArray] (.bool r):=by
 refine eN func63 J ntmps63 J w0 fun i=>?_
 unfold oJ at h
 refine sr<|lbx J fun t=>arr 7 [0,0] J<|qc h (jq N · b.Kind ·) J J J fun z h=>arr 2 [] J ?_
 obtain⟨u,c,h⟩:=bs h
 refine WL.cutN 5 [(14,.bool u),(1,pQ t)] ?_ (fun K=>?_)
 rotate_left
 ·refine sp 9 c J (fun c=>?_) fun c=>?_
  ·refine arr 5 [] J ?_
   cases c
   exact ku K
  ·refine arr 2 [1,0] J<|ly J J<|lnr d J<|arr 2 [] J ?_
   cases c
   exact ku K
 refine en ?_
 refine ch h J ?_ ?_ <;> intro h
 ·refine att 4 [] J ?_
  exact rt i h
 refine atr 6 [1,0] J<|lnr d J<|art 3 [] J ?_
 refine lin (σ:=Int) (fun s=>[(16,f),(17,iV (b.Fields.length:Int)),(18,iV s)]) (fun s=>St w0 a [] []) (fun m s=>f7 N b m s=some r) (0) N h (sx [] []) (fun v w s hm=>?_)
 revert hm;revert s;intro s1 hm
 have h:f7 N b (v+1) s1=some r:=hm
 show WT _ _ [(16,f),(17,iV (b.Fields.length:Int)),(18,iV s1)] (St w0 a [] [])
 unfold f7 at h
 refine att 5 [] J ?_
 refine ch h J ?_ ?_ <;> intro h
 ·refine atr 5 [] J ?_
  obtain⟨x,q,h⟩:=bs h
  obtain⟨A,B,-,g1,C,D,y⟩:=d.el (aa q).2.2
  obtain⟨rfl,-⟩:=y
  refine lia d q J<|lhx 0 3 g1 J<|lnz jF J fun E=>soN 0 oN J ⟨J,J,J,trivial⟩ J ?_
  refine arr 4 [3] J<|qc h (vm N · x ·) J J J fun F h=>la J<|en ?_
  refine ch h J ?_ ?_ <;> intro h
  ·refine att 4 [] J ?_
   exact rt i h
  refine att 6 [] J ?_
  exact lb [] [] (w _ h)
 refine att 5 [] J ?_
 exact rt i h
theorem jT (w0:av e a []) (b:(List bi)) (c:(List bi)) (d:RSl aX 3 e a1 g b) (t:RSl aX 3 e a6 n c) {r:Bool} (h:bU N b c=some r) :
  CB w0 prog 129 [g,n] (.bool r):=by
 refine eN func129 J ntmps129 J w0 fun u=>?_
 unfold bU at h
 refine atr 8 [] J<|lnr d J<|la J<|lnr t J<|la J<|en ?_
 refine ch h J ?_ ?_ <;> intro h
 ·refine att 4 [] J ?_
  exact rt u h
 refine atr 5 [] J<|lnr d J<|art 3 [] J ?_
 refine lin (σ:=Int) (fun s=>[(0,g),(1,n),(12,iV (b.length:Int)),(13,iV s)]) (fun s=>St w0 a [] []) (fun m s=>bp N b c m s=some r) (0) N h (sx [] []) (fun x y s hm=>?_)
 revert hm;revert s;intro s1 hm
 have h:bp N b c (x+1) s1=some r:=hm
 show WT _ _ [(0,g),(1,n),(12,iV (b.length:Int)),(13,iV s1)] (St w0 a [] [])
 unfold bp at h
 refine att 5 [] J ?_
 refine ch h J ?_ ?_ <;> intro h
 ·refine att 9 [] J<|WT.draw mixed MA (fun _ h=>h.drew)<|aqq 2 [] J ?_
  obtain⟨i,v,h⟩:=bs h
  obtain⟨C,D,-,g1,E,F,z⟩:=d.el (aa v).2.2
  obtain⟨rfl,-⟩:=z
  refine qq (ae iB J J d v) J<|qq (aC kM J (fun A hw=>(g1.of_eq 0 3 J J:rg _ _ _ [iV i.K,iV i.N,.string i.S]).rangeAt hw.in0) J) J<|aqq 2 [] J ?_
  obtain⟨q,w,h⟩:=bs h
  obtain⟨G,H,-,g2,I,K,B⟩:=t.el (aa w).2.2
  obtain⟨rfl,-⟩:=B
  refine qq (ae iB J J t w) J<|qq (aC kM J (fun A hw=>(g2.of_eq 0 3 J J:rg _ _ _ [iV q.K,iV q.N,.string q.S]).rangeAt hw.in0) J) J<|qq (sW mT J J J (r:=bq i q) J) J<|WQ.nil ?_
  refine ch h J ?_ ?_ <;> intro h
  ·refine att 4 [] J ?_
   exact rt u h
  refine att 6 [] J ?_
  exact lb [] [] (y _ h)
 refine att 5 [] J ?_
 exact rt u h
theorem wH (w0:av e a []) (c:aH) (d:aH) (i:RSl aX 3 e l f c.Fields) (m:RSl aX 3 e pG1_0 ar d.Fields) {r:Bool} (h:m2 N c d=some r) :
  CB w0 prog 65 [.agg [.string c.Kind,f].toArray,.agg [.string d.Kind,ar].toArray] (.bool r):=by
 refine eN func65 J ntmps65 J w0 fun q=>?_
 unfold m2 at h
 refine sr<|lbx J fun t=>lbx J fun u=>arr 10 [0,32,0,0] J ?_
 obtain⟨s,b,h⟩:=bs h
 refine WL.cutN 6 [(16,.bool s),(4,.bool false)] ?_ (fun K=>?_)
 rotate_left
 ·refine sp 10 b J (fun b=>?_) fun b=>?_
  ·refine arr 4 [1,32,1,0] J<|ly J J<|qd b (jT N · c.Fields d.Fields i m ·) J J J fun v b=>la J ?_
   cases b
   exact ku K
  ·refine arr 6 [] J ?_
   cases b
   exact ku K
 refine la J<|en ?_
 exact rt q h
end Go.Proofs.YtedmfnmbjglmbaaGreat
