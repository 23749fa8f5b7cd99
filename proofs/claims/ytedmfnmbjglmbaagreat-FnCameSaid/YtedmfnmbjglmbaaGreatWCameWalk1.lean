/- Printed by a program of ours: each Go function computes its Lean function. -/
import Derived.Test.YtedmfnmbjglmbaaGreatProg
import Derived.Test.YtedmfnmbjglmbaaGreatWCameSort
import Derived.Test.YtedmfnmbjglmbaaGreatEP
namespace Go.Proofs.YtedmfnmbjglmbaaGreat
open Eng Tryz
open Go.RowKit (Below)
set_option linter.unusedVariables false
set_option linter.unusedSimpArgs false

set_option maxRecDepth 100000
set_option maxHeartbeats 1000000
theorem mixed:prog.follows .mixedOrders=true:=NQ
theorem Cy:Sl prog 22 5 1=true:=NQ
theorem ss:Str prog 9=true:=NQ
theorem C8:Fld prog 87 2 2=true:=NQ
theorem tb:Sl prog 83 201 3=true:=NQ
theorem wn:Tn prog 201 3=true:=NQ
theorem lI:(prog.info? 201).map (·.zero)=some (some (.agg #[.string ⟨#[]⟩,.slice none 0 0,.bool false])):=NQ
theorem pD:Sz prog 201 3=true:=NQ
theorem vS:Fld prog 201 2 2=true:=NQ
theorem sD:T1 prog 3=true:=NQ
theorem L9:Fun prog 97=true:=NQ
theorem Nw:T1 prog 9=true:=NQ
theorem zY:Fld prog 171 0 0=true:=NQ
theorem zI:Fld prog 171 1 1=true:=NQ
theorem l6:Tn prog 95 3=true:=NQ
theorem wW:Pl prog 95 #[(0,1),(1,1),(2,1)]=true:=NQ
theorem jY:(prog.info? 95).map (·.zero)=some (some (.agg #[iV 0,iV 0,.string ⟨#[]⟩])):=NQ
theorem oe:EqT prog 95 [.i .i64,.i .i64,.s]=true:=NQ
theorem yB:Sl prog 199 171 5=true:=NQ
theorem nh:Tn prog 171 5=true:=NQ
theorem kh:(prog.info? 171).map (·.zero)=some (some (.agg #[iV 0,.string ⟨#[]⟩,iV 0,iV 0,.string ⟨#[]⟩])):=NQ
theorem j6:Sz prog 171 5=true:=NQ
theorem tQ:Tn prog 87 5=true:=NQ
theorem Ew:Fun prog 165=true:=NQ
theorem Jj:Fun prog 211=true:=NQ
theorem MA:Bo prog 4=true:=NQ
theorem Fc:Fld prog 173 1 1=true:=NQ
theorem Fg:Fld prog 173 2 6=true:=NQ
theorem Ah:Fld prog 216 0 0=true:=NQ
theorem zU:Fld prog 216 1 1=true:=NQ
theorem wy:Fld prog 216 2 6=true:=NQ
theorem AM:Pl prog 171 #[(0,1),(1,1),(2,3)]=true:=NQ
theorem Jp:EqT prog 171 [.i .i64,.s,.i .i64,.i .i64,.s]=true:=NQ
theorem FC:Fld prog 213 1 1=true:=NQ
theorem tw:Fld prog 213 2 2=true:=NQ
theorem B9:T1 prog 211=true:=NQ
theorem we:Sl prog 211 216 11=true:=NQ
theorem Lm:Tn prog 216 11=true:=NQ
theorem w5:(prog.info? 216).map (·.zero)=some (some (.agg #[.string ⟨#[]⟩,iV 0,.string ⟨#[]⟩,iV 0,iV 0,.string ⟨#[]⟩,iV 0,.string ⟨#[]⟩,iV 0,iV 0,.string ⟨#[]⟩])):=NQ
theorem B5:Sz prog 216 11=true:=NQ
theorem AZ:Tn prog 213 5=true:=NQ
theorem zX:Fld prog 213 3 3=true:=NQ
theorem Gi:Fld prog 213 4 4=true:=NQ
theorem jn:Sl prog 146 9 1=true:=NQ
theorem CP:madeCells (Value.string ⟨#[]⟩:Value).cells (1*1) = #[.string ⟨#[]⟩]:=NQ
theorem ue:(prog.info? 9).map (·.zero)=some (some (.string ⟨#[]⟩)):=NQ
theorem Kt:(prog.info? 9).map (fun i=>(i.zero,i.size,i.bytes))=some (some (.string ⟨#[]⟩),1,16):=NQ
theorem Hc:Fld prog 87 3 3=true:=NQ
theorem Ko:Sl prog 84 173 11=true:=NQ
theorem LA:Tn prog 173 11=true:=NQ
theorem uu:(prog.info? 173).map (·.zero)=some (some (.agg #[iV 0,iV 0,.string ⟨#[]⟩,iV 0,iV 0,.string ⟨#[]⟩,iV 0,.string ⟨#[]⟩,iV 0,iV 0,.string ⟨#[]⟩])):=NQ
theorem yF:Sz prog 173 11=true:=NQ
theorem Cx:madeCells (Value.agg #[iV 0,.string ⟨#[]⟩,iV 0,iV 0,.string ⟨#[]⟩]:Value).cells (2*5) = #[iV 0,.string ⟨#[]⟩,iV 0,iV 0,.string ⟨#[]⟩,iV 0,.string ⟨#[]⟩,iV 0,iV 0,.string ⟨#[]⟩]:=NQ
theorem HD:Fld prog 87 4 4=true:=NQ
theorem JV:Sl prog 85 213 5=true:=NQ
theorem uF:(prog.info? 213).map (·.zero)=some (some (.agg #[iV 0,.string ⟨#[]⟩,.slice none 0 0,iV 0,.string ⟨#[]⟩])):=NQ
theorem uq:Sz prog 213 5=true:=NQ
theorem IE:Fun prog 164=true:=NQ
theorem El:Sl prog 24 87 5=true:=NQ
theorem xK:Fld prog 26 1 1=true:=NQ
theorem JS:T1 prog 24=true:=NQ
theorem Jn:Fun prog 170=true:=NQ
theorem uY:(prog.info? 87).map (·.zero)=some (some (.agg #[.string ⟨#[]⟩,iV 0,.slice none 0 0,.slice none 0 0,.slice none 0 0])):=NQ
theorem yh:Sz prog 87 5=true:=NQ
theorem Eg:Tn prog 26 2=true:=NQ
theorem Ia:Fld prog 52 1 1=true:=NQ
theorem iX:Sl prog 50 95 3=true:=NQ
theorem pL:Sz prog 95 3=true:=NQ
theorem kg:Fld prog 29 0 0=true:=NQ
theorem JR:T1 prog 27=true:=NQ
theorem mN:Sl prog 27 66 3=true:=NQ
theorem qU:Fld prog 29 1 1=true:=NQ
theorem ox:(prog.info? 66).map (·.zero)=some (some (.agg #[iV 0,.string ⟨#[]⟩,.slice none 0 0])):=NQ
theorem wT:Sz prog 66 3=true:=NQ
theorem yr:Fld prog 66 1 1=true:=NQ
theorem mf:Tn prog 52 2=true:=NQ
theorem LP:Fun prog 63=true:=NQ
theorem uW:Fld prog 66 0 0=true:=NQ
theorem BR:(prog.info? 95).map (fun i=>(i.zero,i.size,i.bytes))=some (some (.agg #[iV 0,iV 0,.string ⟨#[]⟩]),3,32):=NQ
theorem lz:(prog.info? 52).map (·.zero)=some (some (.agg #[.string ⟨#[]⟩,.slice none 0 0])):=NQ
theorem Ir:Fun prog 196=true:=NQ
theorem EW:Pl prog 52 #[(0,1),(1,1)]=true:=NQ
theorem mC:Sz prog 52 2=true:=NQ
theorem E2:Fun prog 127=true:=NQ
theorem zZ:Fld prog 137 3 3=true:=NQ
theorem sU:T1 prog 60=true:=NQ
theorem cq:Sl prog 60 3 1=true:=NQ
theorem FQ:Fld prog 137 2 2=true:=NQ
theorem yS:madeCells (Value.agg #[.string ⟨#[]⟩,.slice none 0 0,.bool false]:Value).cells (1*3) = #[.string ⟨#[]⟩,.slice none 0 0,.bool false]:=NQ
theorem CW:(prog.info? 201).map (fun i=>(i.zero,i.size,i.bytes))=some (some (.agg #[.string ⟨#[]⟩,.slice none 0 0,.bool false]),3,48):=NQ
theorem Dz:(prog.info? 191).map (·.zero)=some (some (.agg #[.slice none 0 0,.slice none 0 0,.slice none 0 0,.slice none 0 0,.slice none 0 0,.slice none 0 0,iV 0,iV 0])):=NQ
theorem BZ:Fld prog 47 1 1=true:=NQ
theorem A7:Sl prog 45 141 2=true:=NQ
theorem H7:Tn prog 141 2=true:=NQ
theorem kj:Fld prog 35 0 0=true:=NQ
theorem Bt:T1 prog 32=true:=NQ
theorem mD:Tn prog 29 2=true:=NQ
theorem EJ:Fun prog 115=true:=NQ
theorem KE:Pl prog 191 #[(0,1),(1,1),(2,2),(4,1),(5,2),(7,1)]=true:=NQ
theorem GP:Sz prog 191 8=true:=NQ
theorem Hi:Tn prog 191 8=true:=NQ
theorem pI:Sl prog 61 97 4=true:=NQ
theorem vn:(prog.info? 97).map (·.zero)=some (some (.agg #[.string ⟨#[]⟩,iV 0,iV 0,.string ⟨#[]⟩])):=NQ
theorem Cz:(prog.info? 97).map (fun i=>(i.zero,i.size,i.bytes))=some (some (.agg #[.string ⟨#[]⟩,iV 0,iV 0,.string ⟨#[]⟩]),4,48):=NQ
theorem Kj:Tn prog 97 4=true:=NQ
theorem Mm:Sz prog 97 4=true:=NQ
theorem Hf:Fld prog 97 0 0=true:=NQ
theorem HU:Fld prog 97 1 1=true:=NQ
theorem J8:Fun prog 222=true:=NQ
theorem JU:Pl prog 97 #[(0,1),(1,3)]=true:=NQ
theorem Ep:madeCells (Value.agg #[.string ⟨#[]⟩,iV 0,iV 0,.string ⟨#[]⟩]:Value).cells (1*4) = #[.string ⟨#[]⟩,iV 0,iV 0,.string ⟨#[]⟩]:=NQ
theorem E5:Fun prog 184=true:=NQ
theorem eh:Sl prog 101 105 2=true:=NQ
theorem Du:Tn prog 105 2=true:=NQ
theorem ib:(prog.info? 105).map (·.zero)=some (some (.agg #[.slice none 0 0,.slice none 0 0])):=NQ
theorem oX:Sz prog 105 2=true:=NQ
theorem tm:Fld prog 105 0 0=true:=NQ
theorem tq:Fld prog 105 1 1=true:=NQ
theorem zq:Sz prog 3 1=true:=NQ
theorem sN:madeCells (Value.agg #[.slice none 0 0,.slice none 0 0]:Value).cells (0*2) = #[]:=NQ
theorem qw:(prog.info? 105).map (fun i=>(i.zero,i.size,i.bytes))=some (some (.agg #[.slice none 0 0,.slice none 0 0]),2,48):=NQ
theorem mg:(prog.info? 3).map (·.zero)=some (some (iV 0)):=NQ
theorem sh:(prog.info? 3).map (fun i=>(i.zero,i.size,i.bytes))=some (some (iV 0),1,8):=NQ
theorem vU:Fun prog 56=true:=NQ
theorem ki:madeCells (Value.int .i64 0:Value).cells (1*1) = #[iV 0]:=NQ
theorem Di:Pl prog 105 #[(0,1),(1,1)]=true:=NQ
theorem ve:madeCells (Value.agg #[.slice none 0 0,.slice none 0 0]:Value).cells (1*2) = #[.slice none 0 0,.slice none 0 0]:=NQ
theorem td:Sz prog 60 1=true:=NQ
theorem sP:Sl prog 98 103 1=true:=NQ
theorem gZ:Fld prog 103 0 0=true:=NQ
theorem Bd:T1 prog 101=true:=NQ
theorem EF:Fun prog 179=true:=NQ
theorem Aw:Sz prog 101 1=true:=NQ
theorem J2:Fun prog 197=true:=NQ
theorem vN:Fld prog 141 0 0=true:=NQ
theorem sQ:Sl prog 32 133 1=true:=NQ
theorem kO:Fld prog 133 0 0=true:=NQ
theorem oT:Fld prog 47 0 0=true:=NQ
theorem HF:T1 prog 44=true:=NQ
theorem A9:Sl prog 44 137 4=true:=NQ
theorem ui:Tn prog 137 4=true:=NQ
theorem nc:(prog.info? 137).map (·.zero)=some (some (.agg #[.string ⟨#[]⟩,iV 0,.slice none 0 0,.slice none 0 0])):=NQ
theorem rP:Sz prog 137 4=true:=NQ
theorem uT:Fld prog 35 1 1=true:=NQ
theorem Ac:Sl prog 33 100 1=true:=NQ
theorem AS:Tn prog 100 1=true:=NQ
theorem od:(prog.info? 100).map (·.zero)=some (some (.agg #[.slice none 0 0])):=NQ
theorem wx:Sz prog 100 1=true:=NQ
theorem Ee:Tn prog 47 2=true:=NQ
theorem wK:Tn prog 35 2=true:=NQ
theorem lQ:Fld prog 100 0 0=true:=NQ
theorem Km:T1 prog 98=true:=NQ
theorem JE:Fun prog 134=true:=NQ
theorem GD:Pl prog 137 #[(0,1),(1,1),(2,1),(3,1)]=true:=NQ
theorem Ao:madeCells (Value.agg #[iV 0,iV 0,.string ⟨#[]⟩]:Value).cells (1*3) = #[iV 0,iV 0,.string ⟨#[]⟩]:=NQ
theorem EH:Sz prog 50 1=true:=NQ
theorem LC:Fun prog 85=true:=NQ
theorem BS:madeCells (Value.agg #[.string ⟨#[]⟩,iV 0,.slice none 0 0,.slice none 0 0]:Value).cells (1*4) = #[.string ⟨#[]⟩,iV 0,.slice none 0 0,.slice none 0 0]:=NQ
theorem Hz:(prog.info? 137).map (fun i=>(i.zero,i.size,i.bytes))=some (some (.agg #[.string ⟨#[]⟩,iV 0,.slice none 0 0,.slice none 0 0]),4,72):=NQ
theorem JP:Sz prog 44 1=true:=NQ
theorem sI:(prog.info? 47).map (·.zero)=some (some (.agg #[.slice none 0 0,.slice none 0 0])):=NQ
theorem rE:(prog.info? 141).map (·.zero)=some (some (.agg #[.slice none 0 0,.slice none 0 0])):=NQ
theorem Am:Fld prog 141 1 1=true:=NQ
theorem Cw:madeCells (Value.agg #[.slice none 0 0,.slice none 0 0]:Value).cells (1*2) = #[.slice none 0 0,.slice none 0 0]:=NQ
theorem I4:(prog.info? 141).map (fun i=>(i.zero,i.size,i.bytes))=some (some (.agg #[.slice none 0 0,.slice none 0 0]),2,48):=NQ
theorem Ki:Sz prog 45 1=true:=NQ
theorem uO:Sz prog 47 2=true:=NQ
theorem o8:(prog.info? 35).map (·.zero)=some (some (.agg #[.slice none 0 0,.slice none 0 0])):=NQ
theorem ta:(prog.info? 133).map (·.zero)=some (some (.agg #[.slice none 0 0])):=NQ
theorem LQ:By prog 133 24=true:=NQ
theorem Ka:Pl prog 35 #[(0,1),(1,1)]=true:=NQ
theorem pZ:Sz prog 35 2=true:=NQ
theorem yH:Sz prog 141 2=true:=NQ
theorem rG:(prog.info? 103).map (·.zero)=some (some (.agg #[.slice none 0 0])):=NQ
theorem Ku:By prog 103 24=true:=NQ
theorem H2:Pl prog 100 #[(0,1)]=true:=NQ
theorem y8:madeCells (Value.agg #[.slice none 0 0]:Value).cells (1*1) = #[.slice none 0 0]:=NQ
theorem CR:(prog.info? 100).map (fun i=>(i.zero,i.size,i.bytes))=some (some (.agg #[.slice none 0 0]),1,24):=NQ
theorem Gz:Sz prog 33 1=true:=NQ
theorem EZ:Pl prog 29 #[(0,1),(1,1)]=true:=NQ
theorem o3:(prog.info? 29).map (·.zero)=some (some (.agg #[.slice none 0 0,iV 0])):=NQ
theorem Le:Fun prog 68=true:=NQ
theorem Gn:Tn prog 133 1=true:=NQ
theorem DC:Sz prog 133 1=true:=NQ
theorem CC:Tn prog 103 1=true:=NQ
theorem Ar:Sz prog 103 1=true:=NQ
theorem N2:Fun prog 259=true:=NQ
theorem Nk:Ik prog 278 .u32=true:=NQ
theorem MG:Ik prog 5 .u8=true:=NQ
theorem zm:Ik prog 3 .i64=true:=NQ
theorem Ng:Ik prog 280 .u64=true:=NQ
theorem sk:Ik prog 249 .u64=true:=NQ
theorem ND:T1 prog 282=true:=NQ
theorem NC:Sz prog 282 1=true:=NQ
theorem NL:Ik prog 282 .u64=true:=NQ
theorem NF:(prog.info? 282).map (·.zero)=some (some (.int .u64 0)):=NQ
theorem N3:Fun prog 268=true:=NQ
theorem MX:Fun prog 263=true:=NQ
theorem MU:Fun prog 262=true:=NQ
theorem N5:Fun prog 242=true:=NQ
theorem MY:Fun prog 243=true:=NQ
theorem N6:Fun prog 245=true:=NQ
theorem N0:Fun prog 248=true:=NQ
theorem N1:Fun prog 249=true:=NQ
theorem N4:Fun prog 220=true:=NQ
theorem MW:Fun prog 247=true:=NQ
theorem MV:Fun prog 246=true:=NQ
theorem MZ:Fun prog 244=true:=NQ
theorem HP:madeCells (Value.int .i64 0:Value).cells (2*1) = #[iV 0,iV 0]:=NQ
theorem Ez:Fun prog 181=true:=NQ
theorem Jl:Fun prog 183=true:=NQ
theorem Jz:Fun prog 114=true:=NQ
theorem Iw:Fun prog 110=true:=NQ
theorem Ix:Fun prog 112=true:=NQ
theorem L7:Fun prog 42=true:=NQ
theorem i9:Sl prog 41 63 3=true:=NQ
theorem jQ:Tn prog 63 3=true:=NQ
theorem wD:(prog.info? 63).map (·.zero)=some (some (.agg #[iV 0,.slice none 0 0,.slice none 0 0])):=NQ
theorem sJ:Sz prog 63 3=true:=NQ
theorem GY:Fld prog 63 1 1=true:=NQ
theorem KR:EqT prog 97 [.s,.i .i64,.i .i64,.s]=true:=NQ
theorem LM:Fun prog 51=true:=NQ
theorem KM:madeCells (Value.int .i64 0:Value).cells (3*1) = #[iV 0,iV 0,iV 0]:=NQ
theorem AY:Fun prog 253=true:=NQ
theorem xu:Fun prog 188=true:=NQ
theorem IB:Fun prog 225=true:=NQ
theorem Es:Fun prog 187=true:=NQ
theorem Jo:Fun prog 118=true:=NQ
theorem Kl:Pl prog 63 #[(0,1),(1,1),(2,1)]=true:=NQ
theorem AJ:madeCells (Value.agg #[iV 0,.slice none 0 0,.slice none 0 0]:Value).cells (1*3) = #[iV 0,.slice none 0 0,.slice none 0 0]:=NQ
theorem Eh:(prog.info? 63).map (fun i=>(i.zero,i.size,i.bytes))=some (some (.agg #[iV 0,.slice none 0 0,.slice none 0 0]),3,56):=NQ
theorem KW:Fun prog 58=true:=NQ
theorem MM:T1 prog 41=true:=NQ
theorem M7:Sz prog 41 1=true:=NQ
theorem Et:Fun prog 190=true:=NQ
theorem Mg:(prog.info? 41).map (·.zero)=some (some (.slice none 0 0)):=NQ
theorem Nq:T1 prog 5=true:=NQ
theorem KB:Pl prog 144 #[(0,1),(1,1),(2,1)]=true:=NQ
theorem Lr:(prog.info? 144).map (·.zero)=some (some (.agg #[.slice none 0 0,iV 0,iV 0])):=NQ
theorem Ad:Fld prog 144 2 2=true:=NQ
theorem Fm:Fld prog 144 1 1=true:=NQ
theorem GB:Fun prog 75=true:=NQ
theorem AT:madeCells (Value.string ⟨#[]⟩:Value).cells (2*1) = #[.string ⟨#[]⟩,.string ⟨#[]⟩]:=NQ
theorem J9:Fun prog 126=true:=NQ
theorem AX:madeCells (Value.string ⟨#[]⟩:Value).cells (4*1) = #[.string ⟨#[]⟩,.string ⟨#[]⟩,.string ⟨#[]⟩,.string ⟨#[]⟩]:=NQ
theorem Lq:Pl prog 201 #[(0,1),(1,1),(2,1)]=true:=NQ
theorem Js:Fun prog 205=true:=NQ
theorem HL:madeCells (Value.agg #[iV 0,.string ⟨#[]⟩,iV 0,iV 0,.string ⟨#[]⟩]:Value).cells (1*5) = #[iV 0,.string ⟨#[]⟩,iV 0,iV 0,.string ⟨#[]⟩]:=NQ
theorem LF:(prog.info? 171).map (fun i=>(i.zero,i.size,i.bytes))=some (some (.agg #[iV 0,.string ⟨#[]⟩,iV 0,iV 0,.string ⟨#[]⟩]),5,56):=NQ
theorem KU:Sz prog 199 1=true:=NQ
theorem Lp:Pl prog 173 #[(0,1),(1,5),(6,5)]=true:=NQ
theorem L8:Pl prog 216 #[(0,1),(1,5),(6,5)]=true:=NQ
theorem Kz:Sz prog 9 1=true:=NQ
theorem KK:madeCells (Value.int .i64 0:Value).cells (8*1) = #[iV 0,iV 0,iV 0,iV 0,iV 0,iV 0,iV 0,iV 0]:=NQ
theorem LV:Pl prog 213 #[(0,1),(1,1),(2,1),(3,1),(4,1)]=true:=NQ
theorem LJ:madeCells (Value.string ⟨#[]⟩:Value).cells (5*1) = #[.string ⟨#[]⟩,.string ⟨#[]⟩,.string ⟨#[]⟩,.string ⟨#[]⟩,.string ⟨#[]⟩]:=NQ
theorem Jy:Fun prog 209=true:=NQ
theorem GT:madeCells (Value.agg #[.string ⟨#[]⟩,iV 0,.string ⟨#[]⟩,iV 0,iV 0,.string ⟨#[]⟩,iV 0,.string ⟨#[]⟩,iV 0,iV 0,.string ⟨#[]⟩]:Value).cells (1*11) = #[.string ⟨#[]⟩,iV 0,.string ⟨#[]⟩,iV 0,iV 0,.string ⟨#[]⟩,iV 0,.string ⟨#[]⟩,iV 0,iV 0,.string ⟨#[]⟩]:=NQ
theorem Lv:(prog.info? 216).map (fun i=>(i.zero,i.size,i.bytes))=some (some (.agg #[.string ⟨#[]⟩,iV 0,.string ⟨#[]⟩,iV 0,iV 0,.string ⟨#[]⟩,iV 0,.string ⟨#[]⟩,iV 0,iV 0,.string ⟨#[]⟩]),11,128):=NQ
theorem KA:Sz prog 211 1=true:=NQ
theorem LT:madeCells (Value.int .i64 0:Value).cells (4*1) = #[iV 0,iV 0,iV 0,iV 0]:=NQ
theorem Ld:madeCells (Value.int .i64 0:Value).cells (5*1) = #[iV 0,iV 0,iV 0,iV 0,iV 0]:=NQ
theorem MP:Pl prog 87 #[(0,1),(1,1),(2,1),(3,1),(4,1)]=true:=NQ
theorem Em:Fun prog 150=true:=NQ
theorem Ks:Sz prog 83 1=true:=NQ
theorem HI:madeCells (Value.agg #[iV 0,.string ⟨#[]⟩,.slice none 0 0,iV 0,.string ⟨#[]⟩]:Value).cells (1*5) = #[iV 0,.string ⟨#[]⟩,.slice none 0 0,iV 0,.string ⟨#[]⟩]:=NQ
theorem L4:(prog.info? 213).map (fun i=>(i.zero,i.size,i.bytes))=some (some (.agg #[iV 0,.string ⟨#[]⟩,.slice none 0 0,iV 0,.string ⟨#[]⟩]),5,72):=NQ
theorem MS:Sz prog 85 1=true:=NQ
theorem Hv:madeCells (Value.agg #[iV 0,iV 0,.string ⟨#[]⟩,iV 0,iV 0,.string ⟨#[]⟩,iV 0,.string ⟨#[]⟩,iV 0,iV 0,.string ⟨#[]⟩]:Value).cells (1*11) = #[iV 0,iV 0,.string ⟨#[]⟩,iV 0,iV 0,.string ⟨#[]⟩,iV 0,.string ⟨#[]⟩,iV 0,iV 0,.string ⟨#[]⟩]:=NQ
theorem LO:(prog.info? 173).map (fun i=>(i.zero,i.size,i.bytes))=some (some (.agg #[iV 0,iV 0,.string ⟨#[]⟩,iV 0,iV 0,.string ⟨#[]⟩,iV 0,.string ⟨#[]⟩,iV 0,iV 0,.string ⟨#[]⟩]),11,120):=NQ
theorem M2:Sz prog 84 1=true:=NQ
theorem yW:(prog.info? 26).map (·.zero)=some (some (.agg #[.string ⟨#[]⟩,.slice none 0 0])):=NQ
theorem KT:madeCells (Value.string ⟨#[]⟩:Value).cells (3*1) = #[.string ⟨#[]⟩,.string ⟨#[]⟩,.string ⟨#[]⟩]:=NQ
theorem M4:Pl prog 26 #[(0,1),(1,1)]=true:=NQ
theorem Ak:Sz prog 26 2=true:=NQ
theorem KL:Fun prog 89=true:=NQ
theorem J5:madeCells (Value.agg #[.string ⟨#[]⟩,iV 0,.slice none 0 0,.slice none 0 0,.slice none 0 0]:Value).cells (1*5) = #[.string ⟨#[]⟩,iV 0,.slice none 0 0,.slice none 0 0,.slice none 0 0]:=NQ
theorem Mr:(prog.info? 87).map (fun i=>(i.zero,i.size,i.bytes))=some (some (.agg #[.string ⟨#[]⟩,iV 0,.slice none 0 0,.slice none 0 0,.slice none 0 0]),5,96):=NQ
theorem MQ:Sz prog 24 1=true:=NQ
theorem JD:Fun prog 108=true:=NQ
theorem Io:Fun prog 203=true:=NQ
theorem Md:Pl prog 47 #[(0,1),(1,1)]=true:=NQ
theorem Lh:Pl prog 141 #[(0,1),(1,1)]=true:=NQ
theorem Iv:madeCells (Value.agg #[iV 0,.string ⟨#[]⟩,.slice none 0 0]:Value).cells (0*3) = #[]:=NQ
theorem xq:madeCells (Value.agg #[iV 0,.string ⟨#[]⟩,.slice none 0 0]:Value).cells (1*3) = #[iV 0,.string ⟨#[]⟩,.slice none 0 0]:=NQ
theorem EI:(prog.info? 66).map (fun i=>(i.zero,i.size,i.bytes))=some (some (.agg #[iV 0,.string ⟨#[]⟩,.slice none 0 0]),3,48):=NQ
theorem DT:Sz prog 27 1=true:=NQ
theorem Lc:Fun prog 48=true:=NQ
theorem J4:Fun prog 154=true:=NQ
theorem Hb:Pl prog 66 #[(0,1),(1,2)]=true:=NQ
theorem GI:Pl prog 133 #[(0,1)]=true:=NQ
theorem Bk:madeCells (Value.agg #[.slice none 0 0]:Value).cells (1*1) = #[.slice none 0 0]:=NQ
theorem GF:(prog.info? 133).map (fun i=>(i.zero,i.size,i.bytes))=some (some (.agg #[.slice none 0 0]),1,24):=NQ
theorem JT:Sz prog 32 1=true:=NQ
theorem L3:Pl prog 103 #[(0,1)]=true:=NQ
theorem C6:madeCells (Value.agg #[.slice none 0 0]:Value).cells (1*1) = #[.slice none 0 0]:=NQ
theorem Ib:(prog.info? 103).map (fun i=>(i.zero,i.size,i.bytes))=some (some (.agg #[.slice none 0 0]),1,24):=NQ
theorem Kh:Sz prog 98 1=true:=NQ
theorem ER:Fun prog 191=true:=NQ
theorem DX:Fun prog 235=true:=NQ
theorem IT:Fun prog 228=true:=NQ
theorem JB:Fun prog 229=true:=NQ
theorem ED:Fun prog 193=true:=NQ
theorem Lu:Fun prog 46=true:=NQ
theorem N8:By prog 3 8=true:=NQ
theorem CZ:Sl prog 242 4 1=true:=NQ
theorem EB:Fun prog 230=true:=NQ
theorem IL:Fun prog 231=true:=NQ
theorem MK:(prog.info? 4).map (·.zero)=some (some (.bool false)):=NQ
theorem IS:Fun prog 194=true:=NQ
theorem KN:madeCells (Value.bool false:Value).cells (1*1) = #[.bool false]:=NQ
theorem Nx:(prog.info? 4).map (fun i=>(i.zero,i.size,i.bytes))=some (some (.bool false),1,1):=NQ
theorem IK:Fun prog 195=true:=NQ
theorem qb:Sz prog 29 2=true:=NQ
theorem Li:Fun prog 90=true:=NQ
theorem KH:Fun prog 20=true:=NQ
theorem KV:Fun prog 87=true:=NQ
theorem IU:Fun prog 136=true:=NQ
theorem KQ:Fun prog 70=true:=NQ
variable {e a:Hp} {g f k j n a6:Value} {a1 l o p ad pG1_0:List Nat} {ai:Nat} (N:Nat)
theorem CF (w0:aD e a []) (b:(List Int)) (c:RSl (RI .u8) 1 e a1 g b) {r:Bool} (h:xx N b=some r) :
  CB w0 prog 8 [g] (.bool r):=by
 refine eN func8 J ntmps8 J w0 fun d=>?_
 unfold xx at h
 refine atr 7 [] J<|lnr c J<|art 3 [] J ?_
 exact rt d h
theorem sv  (w0:aD e a []) (c:Int)  {r:Bool} (h:kz N c=some r) :
  CB w0 prog 160 [.int .u8 c] (.bool r):=by
 refine eN func160 J ntmps160 J w0 fun d=>?_
 unfold kz at h
 refine atr 9 [] J ?_
 obtain⟨i,b,h⟩:=bs h
 refine WL.cutN 3 [(8,.bool i),(2,.bool false)] ?_ (fun K=>?_)
 rotate_left
 ·refine sp 5 b J (fun b=>?_) fun b=>?_
  ·refine arr 3 [] J ?_
   cases b
   exact ku K
  ·refine arr 3 [] J ?_
   cases b
   exact ku K
 refine la J<|en ?_
 exact rt d h
theorem yY  (w0:aD e a []) (c:Int)  {r:Bool} (h:pX N c=some r) :
  CB w0 prog 236 [.int .u8 c] (.bool r):=by
 refine eN func236 J ntmps236 J w0 fun d=>?_
 unfold pX at h
 refine atr 9 [] J ?_
 obtain⟨i,b,h⟩:=bs h
 refine WL.cutN 3 [(8,.bool i),(2,.bool false)] ?_ (fun K=>?_)
 rotate_left
 ·refine sp 5 b J (fun b=>?_) fun b=>?_
  ·refine arr 3 [] J ?_
   cases b
   exact ku K
  ·refine arr 3 [] J ?_
   cases b
   exact ku K
 refine la J<|en ?_
 exact rt d h
theorem qe  (w0:aD e a []) (c:Int)  {r:Bool} (h:iR N c=some r) :
  CB w0 prog 210 [.int .u8 c] (.bool r):=by
 refine eN func210 J ntmps210 J w0 fun i=>?_
 unfold iR at h
 refine atr 7 [] J<|qc h (sv N · c ·) J J J fun s h=>la J ?_
 obtain⟨m,b,h⟩:=bs h
 refine WL.cutN 3 [(8,.bool m),(0,.int .u8 c),(2,.bool false)] ?_ (fun K=>?_)
 rotate_left
 ·refine sp 5 b J (fun b=>?_) fun b=>?_
  ·refine arr 3 [] J ?_
   cases b
   exact ku K
  ·refine ly J J<|la J<|ly J J<|qc b (yY N · c ·) J J J fun t b=>la J ?_
   cases b
   exact ku K
 refine la J ?_
 obtain⟨q,d,h⟩:=bs h
 refine WL.cutN 3 [(12,.bool q),(2,.bool false)] ?_ (fun K=>?_)
 rotate_left
 ·refine sp 9 d J (fun d=>?_) fun d=>?_
  ·refine arr 3 [] J ?_
   cases d
   exact ku K
  ·refine arr 3 [] J ?_
   cases d
   exact ku K
 refine la J<|en ?_
 exact rt i h
theorem tJ  (w0:aD e a []) (b:ByteArray) (d:Int)  {r:Bool} (h:mU N b d=some r) :
  CB w0 prog 161 [.string b,iV d] (.bool r):=by
 refine eN func161 J ntmps161 J w0 fun c=>?_
 unfold mU at h
 refine atr 8 [] J<|lq (wv ss J J) J<|art 3 [] J ?_
 refine ch h J ?_ ?_ <;> intro h
 ·refine att 4 [] J ?_
  exact rt c h
 refine att 7 [] J ?_
 refine lin (σ:=Int) (fun s=>[(0,.string b),(5,iV s)]) (fun s=>St w0 a [] []) (fun m s=>fw N b m s=some r) (0) N h (sx [] []) (fun i q s hm=>?_)
 revert hm;revert s;intro s1 hm
 have h:fw N b (i+1) s1=some r:=hm
 show WT _ _ [(0,.string b),(5,iV s1)] (St w0 a [] [])
 unfold fw at h
 refine atr 5 [] J<|lq (wv ss J J) J<|la J<|en ?_
 refine ch h J ?_ ?_ <;> intro h
 ·refine atr 7 [] J ?_
  obtain⟨t,u,h⟩:=bs h
  refine lq (t6 ss J J u) J<|qc h (qe N · (t.toNat:Int) ·) J J J fun v h=>la J<|en ?_
  refine ch h J ?_ ?_ <;> intro h
  ·refine att 4 [] J ?_
   exact rt c h
  refine att 7 [] J ?_
  exact lb [] [] (q _ h)
 refine att 5 [] J ?_
 exact rt c h
theorem jE  (w0:aD e a []) (d:ByteArray)  {r:Bool} (h:ia N d=some r) :
  CB w0 prog 96 [.string d] (.bool r):=by
 refine eN func96 J ntmps96 J w0 fun i=>?_
 unfold ia at h
 refine atr 7 [] J<|lq (wv ss J J) J<|arr 2 [] J ?_
 obtain⟨m,b,h⟩:=bs h
 refine WL.cutN 4 [(10,.bool m),(0,.string d),(2,.bool false)] ?_ (fun K=>?_)
 rotate_left
 ·refine sp 6 b J (fun b=>?_) fun b=>?_
  ·refine ly J J<|la J<|ly J J ?_
   obtain⟨q,s,b⟩:=bs b
   refine lq (t6 ss J J s) J<|ly J J<|qc b (sv N · (q.toNat:Int) ·) J J J fun u b=>la J ?_
   cases b
   exact ku K
  ·refine arr 4 [] J ?_
   cases b
   exact ku K
 refine la J ?_
 obtain⟨t,c,h⟩:=bs h
 refine WL.cutN 3 [(14,.bool t),(2,.bool false)] ?_ (fun K=>?_)
 rotate_left
 ·refine sp 11 c J (fun c=>?_) fun c=>?_
  ·refine ly J J<|la J<|ly J J<|qc c (tJ N · d 12 ·) J J J fun v c=>la J ?_
   cases c
   exact ku K
  ·refine arr 3 [] J ?_
   cases c
   exact ku K
 refine la J<|en ?_
 exact rt i h
theorem dA  (w0:aD e a []) (c:Int) (d:Int) (i:Int)  {r:Bool} (h:dB N c d i=some r) :
  CB w0 prog 97 [iV c,iV d,iV i] (.bool r):=by
 refine eN func97 J ntmps97 J w0 fun m=>?_
 unfold dB at h
 refine atr 10 [] J ?_
 obtain⟨q,b,h⟩:=bs h
 refine WL.cutN 4 [(14,.bool q),(6,.bool false)] ?_ (fun K=>?_)
 rotate_left
 ·refine sp 10 b J (fun b=>?_) fun b=>?_
  ·refine arr 4 [] J ?_
   cases b
   exact ku K
  ·refine arr 4 [] J ?_
   cases b
   exact ku K
 refine la J<|en ?_
 exact rt m h
theorem ov (w0:aD e a []) (b:af) (c:RSl cS 3 e l f b.Pats) (w:RSl cH 11 e o k b.Conds) (x:RSl hU 5 e p j b.Acts) {r:Int} (h:jq N b=some r) :
  CB w0 prog 165 [.agg [.string b.Name,iV b.Sal,f,k,j].toArray] (iV r):=by
 refine eN func165 J ntmps165 J w0 fun q=>?_
 unfold jq at h
 refine sr<|lbx J fun y=>arr 11 [2,0] J<|lnr c J<|art 3 [] J ?_
 refine lin (σ:=Int × Int) (fun s=>[(3,iV s.1),(7,f),(8,iV (b.Pats.length:Int)),(9,iV s.2)]) (fun s=>St w0 a [] []) (fun m s=>ej N b m s.1 s.2=some r) (0,0) N h (sx [] []) (fun t d s hm=>?_)
 obtain⟨s1,s2⟩:=s
 have h:ej N b (t+1) s1 s2=some r:=hm
 show WT _ _ [(3,iV s1),(7,f),(8,iV (b.Pats.length:Int)),(9,iV s2)] (St w0 a [] [])
 unfold ej at h
 refine att 5 [] J ?_
 refine ch h J ?_ ?_ <;> intro h
 ·refine atr 5 [] J ?_
  obtain⟨z,i,h⟩:=bs h
  obtain⟨A,B,-,g1,C,D,u⟩:=c.el (a8 i).2.2
  obtain⟨v1,E,rfl,v,h1⟩:=u
  obtain rfl:=v.symm
  refine lia c i J<|lhx 0 3 g1 J<|lnz lI J fun F=>soN 0 pD J ⟨J,h1.one,J,trivial⟩ J ?_
  refine art 7 [2,0] J ?_
  refine ch h J ?_ ?_ <;> intro h
  ·refine att 10 [] J ?_
   exact lb [] [] (d (_,_) h)
  refine att 6 [] J ?_
  exact lb [] [] (d (_,_) h)
 refine att 6 [] J ?_
 exact rt q h
theorem vr  (w0:aD e a []) (c:bN)  {r:Bool} (h:oL N c=some r) :
  CB w0 prog 128 [.agg [iV c.K,iV c.N,.string c.S].toArray] (.bool r):=by
 refine eN func128 J ntmps128 J w0 fun i=>?_
 unfold oL at h
 refine sr<|lbx J fun s=>art 14 [0,0] J ?_
 refine ch h J ?_ ?_ <;> intro h
 ·refine atr 4 [1,0] J<|qc h (dA N · c.N (-1000000000) 1000000000 ·) J J J fun t h=>la J ?_
  obtain⟨m,d,h⟩:=bs h
  refine WL.cutN 4 [(14,.bool m),(2,.bool false)] ?_ (fun K=>?_)
  rotate_left
  ·refine sp 10 d J (fun d=>?_) fun d=>?_
   ·refine arr 4 [2,0] J ?_
    cases d
    exact ku K
   ·refine arr 4 [] J ?_
    cases d
    exact ku K
  refine la J<|en ?_
  exact rt i h
 refine att 5 [] J ?_
 refine ch h J ?_ ?_ <;> intro h
 ·refine atr 6 [1,0] J ?_
  obtain⟨q,b,h⟩:=bs h
  refine WL.cutN 4 [(24,.bool q),(2,.bool false)] ?_ (fun K=>?_)
  rotate_left
  ·refine sp 20 b J (fun b=>?_) fun b=>?_
   ·refine arr 2 [2,0] J<|ly J J<|qc b (tJ N · c.S 20 ·) J J J fun u b=>la J ?_
    cases b
    exact ku K
   ·refine arr 4 [] J ?_
    cases b
    exact ku K
  refine la J<|en ?_
  exact rt i h
 refine att 6 [] J ?_
 exact rt i h
theorem sw  (w0:aD e a []) (c:Int)  {r:Bool} (h:lR N c=some r) :
  CB w0 prog 267 [.int .u8 c] (.bool r):=by
 refine eN func267 J ntmps267 J w0 fun d=>?_
 unfold lR at h
 refine atr 9 [] J ?_
 obtain⟨i,b,h⟩:=bs h
 refine WL.cutN 3 [(8,.bool i),(2,.bool false)] ?_ (fun K=>?_)
 rotate_left
 ·refine sp 5 b J (fun b=>?_) fun b=>?_
  ·refine arr 3 [] J ?_
   cases b
   exact ku K
  ·refine arr 3 [] J ?_
   cases b
   exact ku K
 refine la J<|en ?_
 exact rt d h
theorem Bh  (w0:aD e a []) (b:ByteArray)  {r:Bool} (h:qR N b=some r) :
  CB w0 prog 256 [.string b] (.bool r):=by
 refine eN func256 J ntmps256 J w0 fun q=>?_
 unfold qR at h
 refine atr 8 [] J<|lq (wv ss J J) J<|arr 2 [] J ?_
 obtain⟨t,i,h⟩:=bs h
 refine WL.cutN 4 [(11,.bool t),(0,.string b)] ?_ (fun K=>?_)
 rotate_left
 ·refine sp 7 i J (fun i=>?_) fun i=>?_
  ·refine arr 4 [] J ?_
   cases i
   exact ku K
  ·refine ly J J<|la J<|ly J J<|lq (wv ss J J) J<|arr 2 [] J ?_
   cases i
   exact ku K
 refine la J ?_
 obtain⟨u,c,h⟩:=bs h
 refine WL.cutN 5 [(17,.bool u),(0,.string b)] ?_ (fun K=>?_)
 rotate_left
 ·refine sp 12 c J (fun c=>?_) fun c=>?_
  ·refine arr 5 [] J ?_
   cases c
   exact ku K
  ·refine ly J J<|la J<|ly J J ?_
   obtain⟨v,w,c⟩:=bs c
   refine lq (t6 ss J J w) J<|ly J J<|qc c (sw N · (v.toNat:Int) ·) J J J fun E c=>arr 2 [] J ?_
   cases c
   exact ku K
 refine en ?_
 refine ch h J ?_ ?_ <;> intro h
 ·refine att 4 [] J ?_
  exact rt q h
 refine att 7 [] J ?_
 refine lin (σ:=Int) (fun s=>[(0,.string b),(3,iV s)]) (fun s=>St w0 a [] []) (fun m s=>ir N b m s=some r) (0) N h (sx [] []) (fun x y s hm=>?_)
 revert hm;revert s;intro s1 hm
 have h:ir N b (x+1) s1=some r:=hm
 show WT _ _ [(0,.string b),(3,iV s1)] (St w0 a [] [])
 unfold ir at h
 refine atr 5 [] J<|lq (wv ss J J) J<|la J<|en ?_
 refine ch h J ?_ ?_ <;> intro h
 ·refine atr 7 [] J ?_
  obtain⟨z,A,h⟩:=bs h
  refine lq (t6 ss J J A) J<|qc h (qe N · (z.toNat:Int) ·) J J J fun F h=>arr 2 [] J ?_
  obtain⟨B,d,h⟩:=bs h
  refine WL.cutN 6 [(35,.bool B),(0,.string b),(3,iV s1)] ?_ (fun K=>?_)
  rotate_left
  ·refine sp 29 d J (fun d=>?_) fun d=>?_
   ·refine arr 2 [] J<|ly J J ?_
    obtain⟨C,D,d⟩:=bs d
    refine lq (t6 ss J J D) J<|ly J J<|qc d (sw N · (C.toNat:Int) ·) J J J fun G d=>arr 2 [] J ?_
    cases d
    exact ku K
   ·refine arr 6 [] J ?_
    cases d
    exact ku K
  refine en ?_
  refine ch h J ?_ ?_ <;> intro h
  ·refine att 4 [] J ?_
   exact rt q h
  refine att 7 [] J ?_
  exact lb [] [] (y _ h)
 refine att 5 [] J ?_
 exact rt q h
theorem vH  (w0:aD e a []) (b:cJ)  {r:Bool} (h:oK N b=some r) :
  CB w0 prog 237 [.agg [iV b.K,.string b.S,iV b.V.K,iV b.V.N,.string b.V.S].toArray] (.bool r):=by
 refine eN func237 J ntmps237 J w0 fun m=>?_
 unfold oK at h
 refine sr<|lbx J fun u=>art 14 [0,0] J ?_
 refine ch h J ?_ ?_ <;> intro h
 ·refine atr 4 [1,0] J<|qc h (Bh N · b.S ·) J J J fun v h=>la J ?_
  obtain⟨q,d,h⟩:=bs h
  refine WL.cutN 5 [(15,.bool q),(2,.bool false)] ?_ (fun K=>?_)
  rotate_left
  ·refine sp 10 d J (fun d=>?_) fun d=>?_
   ·refine arr 2 [2,3] J<|ly J J<|lq (bu (vs:=[]) (C:=#[iV 0,iV 0,.string (⟨#[]⟩:ByteArray)]) wW jY J (ae)) J<|ly J J<|lq (DU oe J J J (r:=bQ b.V (⟨0,0,(⟨#[]⟩:ByteArray)⟩:bN)) J) J<|la J ?_
    cases d
    exact ku K
   ·refine arr 5 [] J ?_
    cases d
    exact ku K
  refine la J<|en ?_
  exact rt m h
 refine att 5 [] J ?_
 refine ch h J ?_ ?_ <;> intro h
 ·refine atr 6 [1,0] J ?_
  obtain⟨s,c,h⟩:=bs h
  refine WL.cutN 4 [(25,.bool s),(2,.bool false)] ?_ (fun K=>?_)
  rotate_left
  ·refine sp 21 c J (fun c=>?_) fun c=>?_
   ·refine arr 2 [2,3] J<|ly J J<|qc c (vr N · b.V ·) J J J fun w c=>la J ?_
    cases c
    exact ku K
   ·refine arr 4 [] J ?_
    cases c
    exact ku K
  refine la J<|en ?_
  exact rt m h
 refine att 5 [] J ?_
 refine ch h J ?_ ?_ <;> intro h
 ·refine atr 6 [1,0] J ?_
  obtain⟨t,i,h⟩:=bs h
  refine WL.cutN 5 [(36,.bool t),(2,.bool false)] ?_ (fun K=>?_)
  rotate_left
  ·refine sp 31 i J (fun i=>?_) fun i=>?_
   ·refine arr 2 [2,3] J<|ly J J<|lq (bu (vs:=[]) (C:=#[iV 0,iV 0,.string (⟨#[]⟩:ByteArray)]) wW jY J (ae)) J<|ly J J<|lq (DU oe J J J (r:=bQ b.V (⟨0,0,(⟨#[]⟩:ByteArray)⟩:bN)) J) J<|la J ?_
    cases i
    exact ku K
   ·refine arr 5 [] J ?_
    cases i
    exact ku K
  refine la J<|en ?_
  exact rt m h
 refine att 6 [] J ?_
 exact rt m h
theorem AQ (w0:aD e a []) (b:ay) (d:RSl f8 5 e l f b.Args) {r:Bool} (h:qW N b=some r) :
  CB w0 prog 211 [.agg [.string b.Kind,f,.bool b.Not].toArray] (.bool r):=by
 refine eN func211 J ntmps211 J w0 fun i=>?_
 unfold qW at h
 refine sr<|lbx J fun t=>arr 7 [0,0] J<|qc h (jE N · b.Kind ·) J J J fun z h=>arr 2 [] J ?_
 obtain⟨u,c,h⟩:=bs h
 refine WL.cutN 5 [(14,.bool u),(1,pQ t)] ?_ (fun K=>?_)
 rotate_left
 ·refine sp 9 c J (fun c=>?_) fun c=>?_
  ·refine arr 5 [] J ?_
   cases c
   exact ku K
  ·refine arr 2 [1,0] J<|ly J J<|lnr d J<|arr 2 [] J ?_
   cases c
   exact ku K
 refine en ?_
 refine ch h J ?_ ?_ <;> intro h
 ·refine att 4 [] J ?_
  exact rt i h
 refine atr 6 [1,0] J<|lnr d J<|art 3 [] J ?_
 refine lin (σ:=Int) (fun s=>[(16,f),(17,iV (b.Args.length:Int)),(18,iV s)]) (fun s=>St w0 a [] []) (fun m s=>iz N b m s=some r) (0) N h (sx [] []) (fun v w s hm=>?_)
 revert hm;revert s;intro s1 hm
 have h:iz N b (v+1) s1=some r:=hm
 show WT _ _ [(16,f),(17,iV (b.Args.length:Int)),(18,iV s1)] (St w0 a [] [])
 unfold iz at h
 refine att 5 [] J ?_
 refine ch h J ?_ ?_ <;> intro h
 ·refine atr 5 [] J ?_
  obtain⟨x,q,h⟩:=bs h
  obtain⟨A,B,-,g1,C,D,y⟩:=d.el (a8 q).2.2
  obtain⟨rfl,-⟩:=y
  refine lia d q J<|lhx 0 5 g1 J<|lnz kh J fun E=>soN 0 j6 J ⟨J,J,J,J,J,trivial⟩ J ?_
  refine arr 4 [5] J<|qc h (vH N · x ·) J J J fun F h=>la J<|en ?_
  refine ch h J ?_ ?_ <;> intro h
  ·refine att 4 [] J ?_
   exact rt i h
  refine att 6 [] J ?_
  exact lb [] [] (w _ h)
 refine att 5 [] J ?_
 exact rt i h
theorem zn (w0:aD e a []) (b:af) (t:RSl cS 3 e l f b.Pats) (y:RSl cH 11 e o k b.Conds) (z:RSl hU 5 e p j b.Acts) {r:Bool} (h:pg N b=some r) :
  CB w0 prog 162 [.agg [.string b.Name,iV b.Sal,f,k,j].toArray] (.bool r):=by
 refine eN func162 J ntmps162 J w0 fun v=>?_
 unfold pg at h
 refine sr<|lbx J fun u=>arr 7 [2,0] J<|lnr t J<|qc h (dA N · (b.Pats.length:Int) 1 6 ·) J J J fun O h=>arr 2 [] J ?_
 obtain⟨C,c,h⟩:=bs h
 refine WL.cutN 5 [(15,.bool C),(1,pQ u)] ?_ (fun K=>?_)
 rotate_left
 ·refine sp 10 c J (fun c=>?_) fun c=>?_
  ·refine arr 5 [] J ?_
   cases c
   exact ku K
  ·refine ly J J<|ld5 tQ 0 J<|ly J J<|qd c (ov N · b t y z ·) J J J fun D c=>ly J J<|qc c (dA N · D 1 3 ·) J J J fun P c=>arr 2 [] J ?_
   cases c
   exact ku K
 refine en ?_
 refine ch h J ?_ ?_ <;> intro h
 ·refine att 4 [] J ?_
  exact rt v h
 refine atr 6 [2,0] J<|lnr t J<|art 3 [] J ?_
 refine lin (σ:=Int) (fun s=>[(1,pQ u),(17,f),(18,iV (b.Pats.length:Int)),(19,iV s)]) (fun s=>St w0 a [(u,.cells #[.string b.Name,iV b.Sal,f,k,j] 87 (0,0))] []) (fun m s=>fx N b m s=some r) (0) N h (sx [] [0]) (fun E F s hm=>?_)
 revert hm;revert s;intro s1 hm
 have h:fx N b (E+1) s1=some r:=hm
 show WT _ _ [(1,pQ u),(17,f),(18,iV (b.Pats.length:Int)),(19,iV s1)] (St w0 a [(u,.cells #[.string b.Name,iV b.Sal,f,k,j] 87 (0,0))] [])
 unfold fx at h
 refine att 5 [] J ?_
 refine ch h J ?_ ?_ <;> intro h
 ·refine atr 6 [] J ?_
  obtain⟨w,A,h⟩:=bs h
  obtain⟨Q,R,-,g1,S,T,G⟩:=t.el (a8 A).2.2
  obtain⟨v1,U,rfl,H,h1⟩:=G
  obtain rfl:=H.symm
  refine lia t A J<|lhx 0 3 g1 J<|lnz lI J fun V=>la J<|soN 0 pD J ⟨J,h1.one,J,trivial⟩ J ?_
  refine en<|sq<|WT.draw mixed NQ (fun _ h=>h.drew)<|qq (aw wn J (fun B hw=>hw.rgO (i:=0) J 0 3 [.string w.Kind,v1,.bool w.Not] J) J) J ?_
  obtain⟨W,I,h⟩:=bs h
  refine qp (jk Jj J (fun B hw=>AQ N (ba hw.in0) w h1 I)) J<|aqq 2 [] J ?_
  obtain⟨L,q,h⟩:=bs h
  refine WQ.cutN 8 [(35,.bool L),(1,pQ u),(17,f),(18,iV (b.Pats.length:Int)),(19,iV s1)] ?_ (fun K=>?_)
  rotate_left
  ·refine WQ.split (d:=27) J (fun x=>?_) (fun x=>?_)
   ·replace q:=lP q x
    refine aqq 8 [] J ?_
    cases q
    exact kq K
   ·replace q:=mb q x
    refine aqq 4 [2,0,37] J<|WQ.yes J J ?_
    obtain⟨X,M,q⟩:=bs q
    refine qp (jk Ew J (fun B hw=>ov N (ba hw.in0) b t y z M)) J<|WQ.yes J J<|qq (K7 J J) J<|WQ.yes J J<|qq (M9 MA J J) J<|WQ.q (rQ J J) J J J ?_
    cases q
    exact kq K
  refine WQ.nil ?_
  refine ch h J ?_ ?_ <;> intro h
  ·refine att 4 [] J ?_
   exact rt v h
  refine att 6 [] J ?_
  exact lb [] [1] (F _ h)
 refine att 5 [] J ?_
 exact rt v h
theorem l9  (w0:aD e a []) (b:cJ)  {r:Bool} (h:jp N b=some r) :
  CB w0 prog 212 [.agg [iV b.K,.string b.S,iV b.V.K,iV b.V.N,.string b.V.S].toArray] (.bool r):=by
 refine eN func212 J ntmps212 J w0 fun d=>?_
 unfold jp at h
 refine sr<|lbx J fun m=>arr 8 [0,0] J ?_
 obtain⟨i,c,h⟩:=bs h
 refine WL.cutN 3 [(9,.bool i),(2,.bool false)] ?_ (fun K=>?_)
 rotate_left
 ·refine sp 6 c J (fun c=>?_) fun c=>?_
  ·refine ly J J<|ld5 nh 0 J<|ly J J<|qc c (vH N · b ·) J J J fun q c=>la J ?_
   cases c
   exact ku K
  ·refine arr 3 [] J ?_
   cases c
   exact ku K
 refine la J<|en ?_
 exact rt d h
theorem zG  (w0:aD e a []) (b:f9)  {r:Bool} (h:oR N b=some r) :
  CB w0 prog 163 [.agg [iV b.Op,iV b.L.K,.string b.L.S,iV b.L.V.K,iV b.L.V.N,.string b.L.V.S,iV b.R.K,.string b.R.S,iV b.R.V.K,iV b.R.V.N,.string b.R.V.S].toArray] (.bool r):=by
 refine eN func163 J ntmps163 J w0 fun i=>?_
 unfold oR at h
 refine sr<|lbx J fun m=>arr 6 [0,0] J<|qc h (dA N · b.Op 1 3 ·) J J J fun t h=>la J ?_
 obtain⟨q,c,h⟩:=bs h
 refine WL.cutN 4 [(10,.bool q),(1,pQ m),(2,.bool false)] ?_ (fun K=>?_)
 rotate_left
 ·refine sp 6 c J (fun c=>?_) fun c=>?_
  ·refine arr 2 [1,5] J<|ly J J<|qc c (l9 N · b.L ·) J J J fun u c=>la J ?_
   cases c
   exact ku K
  ·refine arr 4 [] J ?_
   cases c
   exact ku K
 refine la J ?_
 obtain⟨s,d,h⟩:=bs h
 refine WL.cutN 4 [(15,.bool s),(2,.bool false)] ?_ (fun K=>?_)
 rotate_left
 ·refine sp 11 d J (fun d=>?_) fun d=>?_
  ·refine arr 2 [6,5] J<|ly J J<|qc d (l9 N · b.R ·) J J J fun v d=>la J ?_
   cases d
   exact ku K
  ·refine arr 4 [] J ?_
   cases d
   exact ku K
 refine la J<|en ?_
 exact rt i h
theorem zw  (w0:aD e a []) (b:dY)  {r:Bool} (h:pM N b=some r) :
  CB w0 prog 238 [.agg [.string b.Op,iV b.L.K,.string b.L.S,iV b.L.V.K,iV b.L.V.N,.string b.L.V.S,iV b.R.K,.string b.R.S,iV b.R.V.K,iV b.R.V.N,.string b.R.V.S].toArray] (.bool r):=by
 refine eN func238 J ntmps238 J w0 fun m=>?_
 unfold pM at h
 refine sr<|lbx J fun i=>art 14 [0,0] J ?_
 refine ch h J ?_ ?_ <;> intro h
 ·refine atr 4 [1,5] J<|qc h (l9 N · b.L ·) J J J fun u h=>la J ?_
  obtain⟨q,d,h⟩:=bs h
  refine WL.cutN 5 [(15,.bool q),(2,.bool false)] ?_ (fun K=>?_)
  rotate_left
  ·refine sp 10 d J (fun d=>?_) fun d=>?_
   ·refine arr 2 [6,5] J<|ly J J<|lq (bu (vs:=[]) (C:=#[iV 0,.string (⟨#[]⟩:ByteArray),iV 0,iV 0,.string (⟨#[]⟩:ByteArray)]) AM kh J (ae)) J<|ly J J<|lq (DU Jp J J J (r:=qG b.R (⟨0,(⟨#[]⟩:ByteArray),(⟨0,0,(⟨#[]⟩:ByteArray)⟩:bN)⟩:cJ)) J) J<|la J ?_
    cases d
    exact ku K
   ·refine arr 5 [] J ?_
    cases d
    exact ku K
  refine la J<|en ?_
  exact rt m h
 refine att 6 [] J ?_
 refine cut (σ:=Bool) (fun s=>[(1,pQ i),(16,.bool s)]) (fun s=>St w0 a [(i,.cells #[.string b.Op,iV b.L.K,.string b.L.S,iV b.L.V.K,iV b.L.V.N,.string b.L.V.S,iV b.R.K,.string b.R.S,iV b.R.V.K,iV b.R.V.N,.string b.R.V.S] 216 (0,0))] []) (fun s=>jB N b s=some r) (fun s hm=>?_) (fun K=>?_)
 ·clear h
  revert hm;revert s;intro s1 hm
  have h:jB N b s1=some r:=hm
  show WT _ _ [(1,pQ i),(16,.bool s1)] (St w0 a [(i,.cells #[.string b.Op,iV b.L.K,.string b.L.S,iV b.L.V.K,iV b.L.V.N,.string b.L.V.S,iV b.R.K,.string b.R.S,iV b.R.V.K,iV b.R.V.N,.string b.R.V.S] 216 (0,0))] [])
  unfold jB at h
  refine ch h J ?_ ?_ <;> intro h
  ·refine atr 4 [1,5] J<|qc h (l9 N · b.L ·) J J J fun v h=>la J ?_
   obtain⟨t,c,h⟩:=bs h
   refine WL.cutN 4 [(26,.bool t)] ?_ (fun K=>?_)
   rotate_left
   ·refine sp 22 c J (fun c=>?_) fun c=>?_
    ·refine arr 2 [6,5] J<|ly J J<|qc c (l9 N · b.R ·) J J J fun w c=>la J ?_
     cases c
     exact ku K
    ·refine arr 4 [] J ?_
     cases c
     exact ku K
   refine la J<|en ?_
   exact rt m h
  refine att 6 [] J ?_
  exact rt m h
 refine ch h J ?_ ?_ <;> intro h
 ·refine WT.skip ?_
  exact wo [] [0] (K _ h)
 refine att 4 [] J ?_
 exact wo [] [0] (K _ h)
theorem qx (w0:aD e a []) (b:fd) (d:RSl dF 11 e l f b.Args) {r:Bool} (h:lO N b=some r) :
  CB w0 prog 213 [.agg [iV b.Kind,.string b.Name,f,iV b.N,.string b.Undo].toArray] (.bool r):=by
 refine eN func213 J ntmps213 J w0 fun i=>?_
 unfold lO at h
 refine sr<|lbx J fun t=>arr 7 [1,0] J<|qc h (jE N · b.Name ·) J J J fun z h=>arr 2 [] J ?_
 obtain⟨u,c,h⟩:=bs h
 refine WL.cutN 5 [(14,.bool u),(1,pQ t)] ?_ (fun K=>?_)
 rotate_left
 ·refine sp 9 c J (fun c=>?_) fun c=>?_
  ·refine arr 5 [] J ?_
   cases c
   exact ku K
  ·refine arr 2 [2,0] J<|ly J J<|lnr d J<|arr 2 [] J ?_
   cases c
   exact ku K
 refine en ?_
 refine ch h J ?_ ?_ <;> intro h
 ·refine att 4 [] J ?_
  exact rt i h
 refine atr 6 [2,0] J<|lnr d J<|art 3 [] J ?_
 refine lin (σ:=Int) (fun s=>[(16,f),(17,iV (b.Args.length:Int)),(18,iV s)]) (fun s=>St w0 a [] []) (fun m s=>fm N b m s=some r) (0) N h (sx [] []) (fun v w s hm=>?_)
 revert hm;revert s;intro s1 hm
 have h:fm N b (v+1) s1=some r:=hm
 show WT _ _ [(16,f),(17,iV (b.Args.length:Int)),(18,iV s1)] (St w0 a [] [])
 unfold fm at h
 refine att 5 [] J ?_
 refine ch h J ?_ ?_ <;> intro h
 ·refine atr 5 [] J ?_
  obtain⟨x,q,h⟩:=bs h
  obtain⟨A,B,-,g1,C,D,y⟩:=d.el (a8 q).2.2
  obtain⟨rfl,-⟩:=y
  refine lia d q J<|lhx 0 11 g1 J<|lnz w5 J fun E=>soN 0 B5 J ⟨J,J,J,J,J,J,J,J,J,J,J,trivial⟩ J ?_
  refine arr 4 [11] J<|qc h (zw N · x ·) J J J fun F h=>la J<|en ?_
  refine ch h J ?_ ?_ <;> intro h
  ·refine att 4 [] J ?_
   exact rt i h
  refine att 6 [] J ?_
  exact lb [] [] (w _ h)
 refine att 5 [] J ?_
 exact rt i h
theorem z8  (w0:aD e a []) (c:ByteArray)  {r:Bool} (h:rm N c=some r) :
  CB w0 prog 214 [.string c] (.bool r):=by
 refine eN func214 J ntmps214 J w0 fun d=>?_
 unfold rm at h
 refine atr 9 [] J ?_
 obtain⟨i,b,h⟩:=bs h
 refine WL.cutN 3 [(8,.bool i),(2,.bool false)] ?_ (fun K=>?_)
 rotate_left
 ·refine sp 5 b J (fun b=>?_) fun b=>?_
  ·refine arr 3 [] J ?_
   cases b
   exact ku K
  ·refine ly J J<|la J<|ly J J<|qc b (jE N · c ·) J J J fun m b=>la J ?_
   cases b
   exact ku K
 refine la J<|en ?_
 exact rt d h
theorem AN (w0:aD e a []) (b:fd) (C:RSl dF 11 e l f b.Args) {r:Bool} (h:rd N b=some r) :
  CB w0 prog 164 [.agg [iV b.Kind,.string b.Name,f,iV b.N,.string b.Undo].toArray] (.bool r):=by
 refine eN func164 J ntmps164 J w0 fun q=>?_
 unfold rd at h
 refine sr<|lbx J fun c=>arr 8 [1,0] J ?_
 obtain⟨t,u,h⟩:=bs h
 refine WL.cutN 5 [(12,.bool t),(1,pQ c)] ?_ (fun K=>?_)
 rotate_left
 ·refine sp 7 u J (fun u=>?_) fun u=>?_
  ·refine arr 2 [2,0] J<|ly J J<|lnr C J<|arr 2 [] J ?_
   cases u
   exact ku K
  ·refine arr 5 [] J ?_
   cases u
   exact ku K
 refine art 14 [0,0] J ?_
 refine ch h J ?_ ?_ <;> intro h
 ·refine atr 3 [5] J<|qd h (qx N · b C ·) J J J fun Q h=>la J ?_
  obtain⟨D,v,h⟩:=bs h
  refine WL.cutN 4 [(23,.bool D),(1,pQ c)] ?_ (fun K=>?_)
  rotate_left
  ·refine sp 19 v J (fun v=>?_) fun v=>?_
   ·refine arr 4 [3,0] J ?_
    cases v
    exact ku K
   ·refine arr 4 [] J ?_
    cases v
    exact ku K
  refine la J ?_
  obtain⟨E,w,h⟩:=bs h
  refine WL.cutN 4 [(28,.bool E)] ?_ (fun K=>?_)
  rotate_left
  ·refine sp 24 w J (fun w=>?_) fun w=>?_
   ·refine arr 4 [4,0] J ?_
    cases w
    exact ku K
   ·refine arr 4 [] J ?_
    cases w
    exact ku K
  refine la J<|en ?_
  exact rt q h
 refine att 5 [] J ?_
 refine ch h J ?_ ?_ <;> intro h
 ·refine atr 4 [] J ?_
  obtain⟨F,d,h⟩:=bs h
  refine WL.cutN 4 [(36,.bool F),(1,pQ c)] ?_ (fun K=>?_)
  rotate_left
  ·refine sp 32 d J (fun d=>?_) fun d=>?_
   ·refine arr 2 [3,0] J<|ly J J<|qc d (dA N · b.N 0 7 ·) J J J fun R d=>la J ?_
    cases d
    exact ku K
   ·refine arr 4 [] J ?_
    cases d
    exact ku K
  refine la J ?_
  obtain⟨G,x,h⟩:=bs h
  refine WL.cutN 4 [(41,.bool G)] ?_ (fun K=>?_)
  rotate_left
  ·refine sp 37 x J (fun x=>?_) fun x=>?_
   ·refine arr 4 [4,0] J ?_
    cases x
    exact ku K
   ·refine arr 4 [] J ?_
    cases x
    exact ku K
  refine la J<|en ?_
  exact rt q h
 refine att 5 [] J ?_
 refine ch h J ?_ ?_ <;> intro h
 ·refine atr 3 [5] J<|qd h (qx N · b C ·) J J J fun S h=>la J ?_
  obtain⟨H,y,h⟩:=bs h
  refine WL.cutN 4 [(50,.bool H),(1,pQ c)] ?_ (fun K=>?_)
  rotate_left
  ·refine sp 46 y J (fun y=>?_) fun y=>?_
   ·refine arr 4 [3,0] J ?_
    cases y
    exact ku K
   ·refine arr 4 [] J ?_
    cases y
    exact ku K
  refine la J ?_
  obtain⟨I,i,h⟩:=bs h
  refine WL.cutN 4 [(55,.bool I)] ?_ (fun K=>?_)
  rotate_left
  ·refine sp 51 i J (fun i=>?_) fun i=>?_
   ·refine arr 2 [4,0] J<|ly J J<|qc i (z8 N · b.Undo ·) J J J fun T i=>la J ?_
    cases i
    exact ku K
   ·refine arr 4 [] J ?_
    cases i
    exact ku K
  refine la J<|en ?_
  exact rt q h
 refine att 5 [] J ?_
 refine ch h J ?_ ?_ <;> intro h
 ·refine atr 3 [5] J<|qd h (qx N · b C ·) J J J fun U h=>la J ?_
  obtain⟨L,m,h⟩:=bs h
  refine WL.cutN 4 [(64,.bool L),(1,pQ c)] ?_ (fun K=>?_)
  rotate_left
  ·refine sp 60 m J (fun m=>?_) fun m=>?_
   ·refine arr 2 [3,0] J<|ly J J<|qc m (dA N · b.N 0 100000 ·) J J J fun V m=>la J ?_
    cases m
    exact ku K
   ·refine arr 4 [] J ?_
    cases m
    exact ku K
  refine la J ?_
  obtain⟨M,z,h⟩:=bs h
  refine WL.cutN 4 [(69,.bool M)] ?_ (fun K=>?_)
  rotate_left
  ·refine sp 65 z J (fun z=>?_) fun z=>?_
   ·refine arr 4 [4,0] J ?_
    cases z
    exact ku K
   ·refine arr 4 [] J ?_
    cases z
    exact ku K
  refine la J<|en ?_
  exact rt q h
 refine att 6 [] J ?_
 refine cut (σ:=Bool) (fun s=>[(1,pQ c),(3,.bool t),(70,.bool s)]) (fun s=>St w0 a [(c,.cells #[iV b.Kind,.string b.Name,f,iV b.N,.string b.Undo] 213 (0,0))] []) (fun s=>kL N b t s=some r) (fun s hm=>?_) (fun K=>?_)
 ·clear h
  revert hm;revert s;intro s1 hm
  have h:kL N b t s1=some r:=hm
  show WT _ _ [(1,pQ c),(3,.bool t),(70,.bool s1)] (St w0 a [(c,.cells #[iV b.Kind,.string b.Name,f,iV b.N,.string b.Undo] 213 (0,0))] [])
  unfold kL at h
  refine ch h J ?_ ?_ <;> intro h
  ·refine atr 4 [] J ?_
   obtain⟨O,A,h⟩:=bs h
   refine WL.cutN 4 [(78,.bool O),(1,pQ c)] ?_ (fun K=>?_)
   rotate_left
   ·refine sp 74 A J (fun A=>?_) fun A=>?_
    ·refine arr 4 [3,0] J ?_
     cases A
     exact ku K
    ·refine arr 4 [] J ?_
     cases A
     exact ku K
   refine la J ?_
   obtain⟨P,B,h⟩:=bs h
   refine WL.cutN 4 [(83,.bool P)] ?_ (fun K=>?_)
   rotate_left
   ·refine sp 79 B J (fun B=>?_) fun B=>?_
    ·refine arr 4 [4,0] J ?_
     cases B
     exact ku K
    ·refine arr 4 [] J ?_
     cases B
     exact ku K
   refine la J<|en ?_
   exact rt q h
  refine att 6 [] J ?_
  exact rt q h
 refine ch h J ?_ ?_ <;> intro h
 ·refine WT.skip ?_
  exact wo [] [0] (K _ h)
 refine att 4 [] J ?_
 exact wo [] [0] (K _ h)
theorem ou (w0:aD e a []) (b:(List ByteArray)) (c:ByteArray) (d:RSl RS 1 e a1 g b) {r:Int} (h:dP N b c=some r) :
  CB w0 prog 216 [g,.string c] (iV r):=by
 refine eN func216 J ntmps216 J w0 fun i=>?_
 unfold dP at h
 refine atr 8 [] J<|lnr d J<|art 3 [] J ?_
 refine lin (σ:=Int) (fun s=>[(0,g),(1,.string c),(7,iV (b.length:Int)),(8,iV s)]) (fun s=>St w0 a [] []) (fun m s=>bG N b c m s=some r) (0) N h (sx [] []) (fun t u s hm=>?_)
 revert hm;revert s;intro s1 hm
 have h:bG N b c (t+1) s1=some r:=hm
 show WT _ _ [(0,g),(1,.string c),(7,iV (b.length:Int)),(8,iV s1)] (St w0 a [] [])
 unfold bG at h
 refine att 5 [] J ?_
 refine ch h J ?_ ?_ <;> intro h
 ·refine atr 13 [] J ?_
  obtain⟨w,q,h⟩:=bs h
  obtain⟨x,y,-,g1,z,A,v⟩:=d.el (a8 q).2.2
  obtain⟨rfl,-⟩:=v
  refine lia d q J<|lhx 0 0 g1 J<|la J<|en ?_
  refine ch h J ?_ ?_ <;> intro h
  ·refine att 5 [] J ?_
   exact rt i h
  refine att 6 [] J ?_
  exact lb [] [] (u _ h)
 refine att 5 [] J ?_
 exact rt i h
theorem iN (w0:aD e a []) (b:(List ByteArray)) (c:ByteArray) (d:RSl RS 1 e a1 g b) {r:Bool} (h:cL N b c=some r) :
  CB w0 prog 168 [g,.string c] (.bool r):=by
 refine eN func168 J ntmps168 J w0 fun i=>?_
 unfold cL at h
 refine atr 8 [] J<|qd h (ou N · b c d ·) J J J fun m h=>art 3 [] J ?_
 exact rt i h
theorem xC (w0:aD e a [ob g].flatten) (i:(List ByteArray)) (b:ByteArray) (d:OSl RS 9 1 a [] g i) {r:(List ByteArray)} (h:o7 N i b=some r) :
  Calls prog 239 [g,.string b].toArray w0.w (bc a w0.w [ob g].flatten (fun s Fs v=>∃ (m:Value),v=m∧Fs=[ob m]∧OSl RS 9 1 s [] m r)):=by
 refine eL func239 J ntmps239 J (L:=[ob g]) w0 (fun q=>?_)
 unfold o7 at h
 refine atr 9 [] J<|qc h (iN N · i b d.rsl ·) J J J fun A h=>en ?_
 refine ch h J ?_ ?_ <;> intro h
 ·refine att 5 [] J ?_
  exact rtg [0] q (az.one J) J (by cases h;exact fun t hw=>⟨g,rfl,rfl,d⟩)
 refine atr 5 [] J ?_
 have u:RC RS 1 a ([[]]:List (List Nat)) [.string b] ([b]:List ByteArray):=RC.cons (c:=[.string b]) (cells:=[]) ⟨J,J⟩ J (RC.nil _ _ _)
 refine le' (bz (vs:=[(0,.string b)]) (C:=#[.string b]) RS.lasts jn ue J J J J (ar CP (aa (C':=[.string b]) J J J J J (ae))) J u J (by simpa using Kw.nil)) J ?_
 rintro v1 w B ⟨x,h1⟩
 replace h1:OSl RS 9 1 w [] v1 ([b]:List ByteArray):=by simpa using h1
 replace d:=d.f0 x
 obtain⟨D,y,h⟩:=bs h
 refine le' (dM RS.lasts RS.one RS.flat jn Kt J J J J J (js:=[1]) (Rr:=[ob v1]) J d h1.rsl y) J ?_
 rintro v2 E F ⟨⟨G,H⟩,z⟩
 refine la J<|en ?_
 exact rtg [0] q (az.one J) J (by cases h;exact fun t hw=>⟨v2,rfl,rfl,z⟩)
theorem pC (w0:aD e a [ob g].flatten) (i:(List ByteArray)) (c:(List cJ)) (y:OSl RS 9 1 a [] g i) (t:RSl f8 5 e ad n c) {r:(List ByteArray)} (h:jX N i c=some r) :
  Calls prog 215 [g,n].toArray w0.w (bc a w0.w [ob g].flatten (fun A Fs v=>∃ (u:Value),v=u∧Fs=[ob u]∧OSl RS 9 1 A [] u r)):=by
 refine eL func215 J ntmps215 J (L:=[ob g]) w0 (fun B=>?_)
 unfold jX at h
 refine atr 8 [] J<|lnr t J<|art 3 [] J ?_
 refine lin (σ:=Hp × (List ByteArray) × Value × Int) (fun s=>[(0,s.2.2.1),(7,n),(8,iV (c.length:Int)),(9,iV s.2.2.2)]) (fun s=>St w0 s.1 [] [ob s.2.2.1]) (fun m s=>fJ N c m s.2.1 s.2.2.2=some r∧(OSl RS 9 1 s.1 [] s.2.2.1 s.2.1)) (a,i,g,0) N ⟨h,y⟩ (sx [0] []) (fun F w s hm=>?_)
 obtain⟨G,s1,C,s2⟩:=s
 obtain⟨h,d⟩:=hm
 dsimp only at h d ⊢
 unfold fJ at h
 refine att 5 [] J ?_
 refine ch h J ?_ ?_ <;> intro h
 ·refine atr 5 [] J ?_
  obtain⟨D,x,h⟩:=bs h
  obtain⟨H,I,-,g1,K,M,E⟩:=t.el (a8 x).2.2
  obtain⟨rfl,-⟩:=E
  refine lia t x J<|lhx 0 5 g1 J<|lnz kh J fun O=>soN 0 j6 J ⟨J,J,J,J,J,trivial⟩ J ?_
  refine art 7 [0,0] J ?_
  refine ch h J ?_ ?_ <;> intro h
  ·refine atr 4 [1,0] J<|kcb [0] h J J J J (fun b ap z q=>xC N b s1 D.S d q) ?_
   rintro P h v1 Q R ⟨S,T,v2,rfl,rfl,h1⟩
   refine art 7 [] J ?_
   exact lb [0] [] (w (_,_,_,_) ⟨h,h1⟩)
  refine att 6 [] J ?_
  exact lb [0] [] (w (_,_,_,_) ⟨h,d⟩)
 refine att 6 [] J ?_
 exact rtg [0] B (az.one J) J (by cases h;exact fun U hw=>⟨C,rfl,rfl,d⟩)
theorem yy (w0:aD e a []) (c:af) (i:RSl cS 3 e l f c.Pats) (G:RSl cH 11 e o k c.Conds) (H:RSl hU 5 e p j c.Acts) {r:(List ByteArray)} (h:m6 N c=some r) :
  Calls prog 166 [.agg [.string c.Name,iV c.Sal,f,k,j].toArray].toArray w0.w (bc a w0.w [] (fun x Fs v=>∃ (t:Value),v=t∧Fs=[ob t]∧OSl RS 9 1 x [] t r)):=by
 refine eN func166 J ntmps166 J w0 fun y=>?_
 unfold m6 at h
 refine sr<|lbx J fun I=>arr 11 [2,0] J<|lnr i J<|art 3 [] J<|wtS ?_
 have A:=OSl.nil RS 9 1 a
 refine lin (σ:=Hp × (List ByteArray) × Value × Int) (fun s=>[(3,s.2.2.1),(7,f),(8,iV (c.Pats.length:Int)),(9,iV s.2.2.2)]) (fun s=>St w0 s.1 [] [ob s.2.2.1]) (fun m s=>fK N c m s.2.1 s.2.2.2=some r∧(OSl RS 9 1 s.1 [] s.2.2.1 s.2.1)) (a,([]:List ByteArray),(.slice none 0 0),0) N ⟨h,A⟩ (sx [0] []) (fun K u s hm=>?_)
 obtain⟨L,s1,B,s2⟩:=s
 obtain⟨h,d⟩:=hm
 dsimp only at h d ⊢
 unfold fK at h
 refine att 5 [] J ?_
 refine ch h J ?_ ?_ <;> intro h
 ·refine atr 5 [] J ?_
  obtain⟨C,w,h⟩:=bs h
  obtain⟨M,O,-,g1,P,Q,D⟩:=i.el (a8 w).2.2
  obtain⟨v1,R,rfl,E,h1⟩:=D
  obtain rfl:=E.symm
  refine lia i w J<|lhx 0 3 g1 J<|lnz lI J fun S=>soN 0 pD J ⟨J,h1.one,J,trivial⟩ J ?_
  refine art 7 [2,0] J ?_
  refine ch h J ?_ ?_ <;> intro h
  ·refine atr 4 [1,0] J<|kcb [0] h J J J J (fun b ap z q=>pC N b s1 C.Args d (h1.y z) q) ?_
   rintro T h v2 U V ⟨W,X,v3,rfl,rfl,F⟩
   refine art 7 [] J ?_
   exact lb [0] [] (u (_,_,_,_) ⟨h,F⟩)
  refine att 6 [] J ?_
  exact lb [0] [] (u (_,_,_,_) ⟨h,d⟩)
 refine att 6 [] J ?_
 exact rtg [0] y (az.one J) J (by cases h;exact fun Y hw=>⟨B,rfl,rfl,d⟩)
theorem xg (w0:aD e a []) (t:af) (ao:RSl cS 3 e l f t.Pats) (y:RSl cH 11 e o k t.Conds) (A:RSl hU 5 e p j t.Acts) {r:(List ByteArray)} (h:mI N t=some r) :
  Calls prog 167 [.agg [.string t.Name,iV t.Sal,f,k,j].toArray].toArray w0.w (bc a w0.w [] (fun P Fs v=>∃ (B:Value),v=B∧Fs=[ob B]∧OSl RS 9 1 P [] B r)):=by
 refine eN func167 J ntmps167 J w0 fun Q=>?_
 unfold mI at h
 refine sr<|lbx J fun F=>arr 11 [3,0] J<|lnr y J<|art 3 [] J<|wtS ?_
 have R:=OSl.nil RS 9 1 a
 refine lin (σ:=Hp × (List ByteArray) × Value × Int) (fun s=>[(1,pQ F),(3,s.2.2.1),(11,k),(12,iV (t.Conds.length:Int)),(13,iV s.2.2.2)]) (fun s=>St w0 s.1 [(F,.cells #[.string t.Name,iV t.Sal,f,k,j] 87 (0,0))] [ob s.2.2.1]) (fun m s=>gr N t m s.2.1 s.2.2.2=some r∧(OSl RS 9 1 s.1 [] s.2.2.1 s.2.1)) (a,([]:List ByteArray),(.slice none 0 0),0) N ⟨h,R⟩ (sx [0] [0]) (fun n1 S s hm=>?_)
 obtain⟨G,s1,T,s2⟩:=s
 obtain⟨h,u⟩:=hm
 dsimp only at h u ⊢
 unfold gr at h
 refine att 5 [] J ?_
 refine ch h J ?_ ?_ <;> intro h
 ·refine atr 5 [] J ?_
  obtain⟨d,H,h⟩:=bs h
  obtain⟨aq,F1,-,g1,au,av,U⟩:=y.el (a8 H).2.2
  obtain⟨rfl,-⟩:=U
  refine lia y H J<|lhx 0 11 g1 J<|lnz uu J fun aw=>soN 0 yF J ⟨J,J,J,J,J,J,J,J,J,J,J,trivial⟩ J ?_
  refine arr 7 [1,5,6,5] J ?_
  have V:RC f8 5 G ([[],[]]:List (List Nat)) [iV d.L.K,.string d.L.S,iV d.L.V.K,iV d.L.V.N,.string d.L.V.S,iV d.R.K,.string d.R.S,iV d.R.V.K,iV d.R.V.N,.string d.R.V.S] ([d.L,d.R]:List cJ):=RC.cons (c:=[iV d.L.K,.string d.L.S,iV d.L.V.K,iV d.L.V.N,.string d.L.V.S]) (cells:=[iV d.R.K,.string d.R.S,iV d.R.V.K,iV d.R.V.N,.string d.R.V.S]) ⟨J,J⟩ J (RC.cons (c:=[iV d.R.K,.string d.R.S,iV d.R.V.K,iV d.R.V.N,.string d.R.V.S]) (cells:=[]) ⟨J,J⟩ J (RC.nil _ _ _))
  refine le' (bz (vs:=[(0,.agg [iV d.L.K,.string d.L.S,iV d.L.V.K,iV d.L.V.N,.string d.L.V.S].toArray),(1,.agg [iV d.R.K,.string d.R.S,iV d.R.V.K,iV d.R.V.N,.string d.R.V.S].toArray)]) (C:=#[iV d.L.K,.string d.L.S,iV d.L.V.K,iV d.L.V.N,.string d.L.V.S,iV d.R.K,.string d.R.S,iV d.R.V.K,iV d.R.V.N,.string d.R.V.S]) f8.lasts yB kh J J J J (ar Cx (aa (C':=[iV d.L.K,.string d.L.S,iV d.L.V.K,iV d.L.V.N,.string d.L.V.S,iV 0,.string ⟨#[]⟩,iV 0,iV 0,.string ⟨#[]⟩]) J J J J J (aa (C':=[iV d.L.K,.string d.L.S,iV d.L.V.K,iV d.L.V.N,.string d.L.V.S,iV d.R.K,.string d.R.S,iV d.R.V.K,iV d.R.V.N,.string d.R.V.S]) J J J J J (ae)))) J V J (by simpa using Kw.nil)) J ?_
  rintro v1 W D1 ⟨X,h1⟩
  replace h1:OSl f8 171 5 W [] v1 ([d.L,d.R]:List cJ):=by simpa using h1
  replace u:=u.f0 X
  refine kcb [1] h J J J J (fun b ap z q=>pC N b s1 ([d.L,d.R]:List cJ) u (h1.rsl.x (Dj.app (ap.q 0 J) dN)) q) ?_
  rintro x2 h v2 ax F2 ⟨ay,aA,v3,rfl,rfl,Y⟩
  refine art 7 [] J ?_
  exact lb [0] [1] (S (_,_,_,_) ⟨h,Y⟩)
 refine atr 6 [4,0] J<|lnr A J<|art 3 [] J ?_
 refine lin (σ:=Hp × (List ByteArray) × Value × Int) (fun s=>[(3,s.2.2.1),(26,j),(27,iV (t.Acts.length:Int)),(28,iV s.2.2.2)]) (fun s=>St w0 s.1 [] [ob s.2.2.1]) (fun m s=>dJ N t m s.2.1 s.2.2.2=some r∧(OSl RS 9 1 s.1 [] s.2.2.1 s.2.1)) (G,s1,T,0) N ⟨h,u⟩ (sx [0] []) (fun Z a7 s hm=>?_)
 obtain⟨ab,s3,I,K⟩:=s
 obtain⟨h,D⟩:=hm
 dsimp only at h D ⊢
 unfold dJ at h
 refine att 5 [] J ?_
 refine ch h J ?_ ?_ <;> intro h
 ·refine atr 5 [] J ?_
  obtain⟨L,M,h⟩:=bs h
  obtain⟨aB,F3,-,g2,aC,aE,r2⟩:=A.el (a8 M).2.2
  obtain⟨v4,G1,rfl,ag,x⟩:=r2
  obtain rfl:=ag.symm
  refine lia A M J<|lhx 0 5 g2 J<|lnz uF J fun aF=>soN 0 uq J ⟨J,J,x.one,J,J,trivial⟩ J ?_
  refine arr 5 [2,0] J<|lnr x J<|art 3 [] J ?_
  refine lin (σ:=Hp × (List ByteArray) × Value × Int) (fun s=>[(3,s.2.2.1),(26,j),(27,iV (t.Acts.length:Int)),(28,iV K),(33,v4),(34,iV (L.Args.length:Int)),(35,iV s.2.2.2)]) (fun s=>St w0 s.1 [] [ob s.2.2.1]) (fun m s=>eZ N K (dJ N t Z) L m s.2.1 s.2.2.2=some r∧(OSl RS 9 1 s.1 [] s.2.2.1 s.2.1)) (ab,s3,I,0) N ⟨h,D⟩ (sx [0] []) (fun n3 ah s hm=>?_)
  obtain⟨aj,s5,u3,s6⟩:=s
  obtain⟨h,w⟩:=hm
  dsimp only at h w ⊢
  unfold eZ at h
  refine att 5 [] J ?_
  refine ch h J ?_ ?_ <;> intro h
  ·refine atr 5 [] J ?_
   obtain⟨i,O,h⟩:=bs h
   obtain⟨aG,F4,-,g3,aH,aI,r3⟩:=x.el (a8 O).2.2
   obtain⟨rfl,-⟩:=r3
   refine lia x O J<|lhx 0 11 g3 J<|lnz w5 J fun aJ=>soN 0 B5 J ⟨J,J,J,J,J,J,J,J,J,J,J,trivial⟩ J ?_
   refine arr 7 [1,5,6,5] J ?_
   have ak:RC f8 5 aj ([[],[]]:List (List Nat)) [iV i.L.K,.string i.L.S,iV i.L.V.K,iV i.L.V.N,.string i.L.V.S,iV i.R.K,.string i.R.S,iV i.R.V.K,iV i.R.V.N,.string i.R.V.S] ([i.L,i.R]:List cJ):=RC.cons (c:=[iV i.L.K,.string i.L.S,iV i.L.V.K,iV i.L.V.N,.string i.L.V.S]) (cells:=[iV i.R.K,.string i.R.S,iV i.R.V.K,iV i.R.V.N,.string i.R.V.S]) ⟨J,J⟩ J (RC.cons (c:=[iV i.R.K,.string i.R.S,iV i.R.V.K,iV i.R.V.N,.string i.R.V.S]) (cells:=[]) ⟨J,J⟩ J (RC.nil _ _ _))
   refine le' (bz (vs:=[(0,.agg [iV i.L.K,.string i.L.S,iV i.L.V.K,iV i.L.V.N,.string i.L.V.S].toArray),(1,.agg [iV i.R.K,.string i.R.S,iV i.R.V.K,iV i.R.V.N,.string i.R.V.S].toArray)]) (C:=#[iV i.L.K,.string i.L.S,iV i.L.V.K,iV i.L.V.N,.string i.L.V.S,iV i.R.K,.string i.R.S,iV i.R.V.K,iV i.R.V.N,.string i.R.V.S]) f8.lasts yB kh J J J J (ar Cx (aa (C':=[iV i.L.K,.string i.L.S,iV i.L.V.K,iV i.L.V.N,.string i.L.V.S,iV 0,.string ⟨#[]⟩,iV 0,iV 0,.string ⟨#[]⟩]) J J J J J (aa (C':=[iV i.L.K,.string i.L.S,iV i.L.V.K,iV i.L.V.N,.string i.L.V.S,iV i.R.K,.string i.R.S,iV i.R.V.K,iV i.R.V.N,.string i.R.V.S]) J J J J J (ae)))) J ak J (by simpa using Kw.nil)) J ?_
   rintro v5 al D2 ⟨an,E⟩
   replace E:OSl f8 171 5 al [] v5 ([i.L,i.R]:List cJ):=by simpa using E
   replace w:=w.f0 an
   refine kcb [1] h J J J J (fun b ap z q=>pC N b s5 ([i.L,i.R]:List cJ) w (E.rsl.x (Dj.app (ap.q 0 J) dN)) q) ?_
   rintro x5 h v6 aK F5 ⟨aL,aM,v7,rfl,rfl,h5⟩
   refine art 7 [] J ?_
   exact lb [0] [] (ah (_,_,_,_) ⟨h,h5⟩)
  refine att 6 [] J ?_
  exact lb [0] [] (a7 (_,_,_,_) ⟨h,w⟩)
 refine att 6 [] J ?_
 exact rtg [0] Q (az.one J) J (by cases h;exact fun w1 hw=>⟨I,rfl,rfl,D⟩)
theorem zF (w0:aD e a []) (c:af) (E:RSl cS 3 e l f c.Pats) (u:RSl cH 11 e o k c.Conds) (v:RSl hU 5 e p j c.Acts) {r:Bool} (h:ph N c=some r) :
  CB w0 prog 98 [.agg [.string c.Name,iV c.Sal,f,k,j].toArray] (.bool r):=by
 refine eN func98 J ntmps98 J w0 fun C=>?_
 unfold ph at h
 refine sr<|lbx J fun t=>arr 7 [0,0] J<|qc h (jE N · c.Name ·) J J J fun x1 h=>arr 2 [] J ?_
 obtain⟨U,y,h⟩:=bs h
 refine WL.cutN 5 [(19,.bool U),(1,pQ t)] ?_ (fun K=>?_)
 rotate_left
 ·refine sp 14 y J (fun y=>?_) fun y=>?_
  ·refine arr 5 [] J ?_
   cases y
   exact ku K
  ·refine arr 2 [1,0] J<|ly J J<|qc y (dA N · c.Sal (-100) 100 ·) J J J fun x2 y=>arr 2 [] J ?_
   cases y
   exact ku K
 refine la J ?_
 obtain⟨V,A,h⟩:=bs h
 refine WL.cutN 4 [(24,.bool V),(1,pQ t)] ?_ (fun K=>?_)
 rotate_left
 ·refine sp 20 A J (fun A=>?_) fun A=>?_
  ·refine arr 4 [] J ?_
   cases A
   exact ku K
  ·refine ly J J<|ld5 tQ 0 J<|ly J J<|qd A (zn N · c E u v ·) J J J fun x3 A=>arr 2 [] J ?_
   cases A
   exact ku K
 refine en ?_
 refine ch h J ?_ ?_ <;> intro h
 ·refine att 4 [] J ?_
  exact rt C h
 refine atr 6 [3,0] J<|lnr u J<|arr 2 [] J ?_
 obtain⟨W,B,h⟩:=bs h
 refine WL.cutN 6 [(35,.bool W),(1,pQ t)] ?_ (fun K=>?_)
 rotate_left
 ·refine sp 29 B J (fun B=>?_) fun B=>?_
  ·refine arr 6 [] J ?_
   cases B
   exact ku K
  ·refine arr 2 [4,0] J<|ly J J<|lnr v J<|ly J J<|qc B (dA N · (c.Acts.length:Int) 1 6 ·) J J J fun x4 B=>arr 2 [] J ?_
   cases B
   exact ku K
 refine en ?_
 refine ch h J ?_ ?_ <;> intro h
 ·refine att 4 [] J ?_
  exact rt C h
 refine atr 6 [3,0] J<|lnr u J<|art 3 [] J ?_
 refine lin (σ:=Int) (fun s=>[(1,pQ t),(37,k),(38,iV (c.Conds.length:Int)),(39,iV s)]) (fun s=>St w0 a [(t,.cells #[.string c.Name,iV c.Sal,f,k,j] 87 (0,0))] []) (fun m s=>fB N c m s=some r) (0) N h (sx [] [0]) (fun X Y s hm=>?_)
 revert hm;revert s;intro s1 hm
 have h:fB N c (X+1) s1=some r:=hm
 show WT _ _ [(1,pQ t),(37,k),(38,iV (c.Conds.length:Int)),(39,iV s1)] (St w0 a [(t,.cells #[.string c.Name,iV c.Sal,f,k,j] 87 (0,0))] [])
 unfold fB at h
 refine att 5 [] J ?_
 refine ch h J ?_ ?_ <;> intro h
 ·refine atr 5 [] J ?_
  obtain⟨Z,O,h⟩:=bs h
  obtain⟨al,F1,-,g1,an,ao,r1⟩:=u.el (a8 O).2.2
  obtain⟨rfl,-⟩:=r1
  refine lia u O J<|lhx 0 11 g1 J<|lnz uu J fun aq=>soN 0 yF J ⟨J,J,J,J,J,J,J,J,J,J,J,trivial⟩ J ?_
  refine arr 4 [11] J<|qc h (zG N · Z ·) J J J fun x6 h=>la J<|en ?_
  refine ch h J ?_ ?_ <;> intro h
  ·refine att 4 [] J ?_
   exact rt C h
  refine att 6 [] J ?_
  exact lb [] [1] (Y _ h)
 refine atr 6 [4,0] J<|lnr v J<|art 3 [] J ?_
 refine lin (σ:=Int) (fun s=>[(1,pQ t),(48,j),(49,iV (c.Acts.length:Int)),(50,iV s)]) (fun s=>St w0 a [(t,.cells #[.string c.Name,iV c.Sal,f,k,j] 87 (0,0))] []) (fun m s=>fo N c m s=some r) (0) N h (sx [] [0]) (fun n2 a7 s hm=>?_)
 revert hm;revert s;intro s2 hm
 have h:fo N c (n2+1) s2=some r:=hm
 show WT _ _ [(1,pQ t),(48,j),(49,iV (c.Acts.length:Int)),(50,iV s2)] (St w0 a [(t,.cells #[.string c.Name,iV c.Sal,f,k,j] 87 (0,0))] [])
 unfold fo at h
 refine att 5 [] J ?_
 refine ch h J ?_ ?_ <;> intro h
 ·refine atr 5 [] J ?_
  obtain⟨D,P,h⟩:=bs h
  obtain⟨ar,F2,-,g2,au,av,r2⟩:=v.el (a8 P).2.2
  obtain⟨v1,G1,rfl,aa,h1⟩:=r2
  obtain rfl:=aa.symm
  refine lia v P J<|lhx 0 5 g2 J<|lnz uF J fun ax=>soN 0 uq J ⟨J,J,h1.one,J,J,trivial⟩ J ?_
  refine en<|sq<|WT.draw mixed NQ (fun _ h=>h.drew)<|qq (aw AZ J (fun Q hw=>hw.rgO (i:=0) J 0 5 [iV D.Kind,.string D.Name,v1,iV D.N,.string D.Undo] J) J) J ?_
  obtain⟨x8,ab,h⟩:=bs h
  refine qp (jk IE J (fun Q hw=>AN N (ba hw.in0) D h1 ab)) J<|aqq 2 [] J ?_
  obtain⟨b4,w,h⟩:=bs h
  refine WQ.cutN 11 [(68,.bool b4),(1,pQ t),(48,j),(49,iV (c.Acts.length:Int)),(50,iV s2)] ?_ (fun K=>?_)
  rotate_left
  ·refine WQ.split (d:=57) J (fun G=>?_) (fun G=>?_)
   ·replace w:=lP w G
    refine aqq 11 [] J ?_
    cases w
    exact kq K
   ·replace w:=mb w G
    refine aqq 4 [0,0] J ?_
    obtain⟨b5,x,w⟩:=bs w
    refine WQ.cutN 6 [(67,.bool b5),(1,pQ t),(48,j),(49,iV (c.Acts.length:Int)),(50,iV s2),(57,.bool false)] ?_ (fun K=>?_)
    rotate_left
    ·refine WQ.split (d:=61) J (fun H=>?_) (fun H=>?_)
     ·replace x:=lP x H
      refine aqq 3 [3,0,37] J<|WQ.yes J J ?_
      obtain⟨x9,ae,x⟩:=bs x
      refine qp (jk Ew J (fun Q hw=>ov N (ba hw.in0) c E u v ae)) J<|aqq 2 [] J ?_
      cases x
      exact kq K
     ·replace x:=mb x H
      refine aqq 6 [] J ?_
      cases x
      exact kq K
    refine WQ.q (rQ J J) J J J ?_
    cases w
    exact kq K
  refine WQ.nil ?_
  refine ch h J ?_ ?_ <;> intro h
  ·refine att 4 [] J ?_
   exact rt C h
  refine att 6 [] J ?_
  exact lb [] [1] (a7 _ h)
 refine atr 4 [5] J<|kab h J J J (fun b z q=>yy N b c (E.y z) (u.y z) (v.y z) q) ?_
 rintro I h v2 ay F3 ⟨az,aA,v3,rfl,rfl,L⟩
 refine arr 6 [5] J<|kab h J J J (fun b z q=>xg N b c (E.y z) (u.y z) (v.y z) q) ?_
 rintro F h v4 R F4 ⟨ag,ah,v5,rfl,rfl,M⟩
 replace L:=L.fr ah (ag.q 0 J) dN
 refine lno M J<|art 3 [] J ?_
 refine lin (σ:=Int) (fun s=>[(7,v2),(73,v4),(74,iV (F.length:Int)),(75,iV s)]) (fun s=>St w0 R [] [ob v4,ob v2]) (fun m s=>fy N I F m s=some r) (0) N h (sx [0,0] []) (fun n3 aj s hm=>?_)
 revert hm;revert s;intro S hm
 have h:fy N I F (n3+1) S=some r:=hm
 show WT _ _ [(7,v2),(73,v4),(74,iV (F.length:Int)),(75,iV S)] (St w0 R [] [ob v4,ob v2])
 unfold fy at h
 refine att 5 [] J ?_
 refine ch h J ?_ ?_ <;> intro h
 ·refine atr 5 [] J ?_
  obtain⟨ak,T,h⟩:=bs h
  obtain⟨aB,F5,-,g3,aC,aE,r3⟩:=M.elS (a8 T).2.2
  obtain⟨rfl,-⟩:=r3
  refine lio M T J<|lgx 0 0 g3 J<|arr 6 [] J<|qc h (iN N · I ak L.rsl ·) J J J fun aF h=>la J<|en ?_
  refine ch h J ?_ ?_ <;> intro h
  ·refine att 4 [] J ?_
   exact rt C h
  refine att 6 [] J ?_
  exact lb [0,0] [] (aj _ h)
 refine att 5 [] J ?_
 exact rt C h
theorem mi {d:Nat} {q:List Value} (w0:aD e a []) (b:(List af)) (t:af→Option (Bool)) (u:RSl fb 5 e a1 g b) (A:Fun prog d=true) (B:∀ {i:Hp} {w':World},FrH [] a i→In i w'→∀ (c:af) {v:Value} {C:List Nat} {w:Value} {D:List Nat} {x:Value} {E:List Nat} (_:RSl cS 3 i C v c.Pats) (_:RSl cH 11 i D w c.Conds) (_:RSl hU 5 i E x c.Acts) {r:Bool},t c=some r→Calls prog d (([.agg [.string c.Name,iV c.Sal,v,w,x].toArray]:List Value)++q).toArray w' (lw (.bool r) w')) {r:Int} (h:dU N b t=some r) :
  CB w0 prog 169 [g,.func (.func d) #[] q.toArray] (iV r):=by
 refine eN func169 J ntmps169 J w0 fun y=>?_
 unfold dU at h
 refine atr 8 [] J<|lnr u J<|art 3 [] J ?_
 refine lin (σ:=Int) (fun s=>[(0,g),(1,.func (.func d) #[] q.toArray),(7,iV (b.length:Int)),(8,iV s)]) (fun s=>St w0 a [] []) (fun m s=>bl N b t m s=some r) (0) N h (sx [] []) (fun F G s hm=>?_)
 revert hm;revert s;intro s1 hm
 have h:bl N b t (F+1) s1=some r:=hm
 show WT _ _ [(0,g),(1,.func (.func d) #[] q.toArray),(7,iV (b.length:Int)),(8,iV s1)] (St w0 a [] [])
 unfold bl at h
 refine att 5 [] J ?_
 refine ch h J ?_ ?_ <;> intro h
 ·refine atr 13 [] J ?_
  obtain⟨H,z,h⟩:=bs h
  obtain⟨O,P,-,g1,Q,R,I⟩:=u.el (a8 z).2.2
  obtain⟨v1,S,v2,T,v3,U,rfl,rfl,h1,K,L⟩:=I
  refine lia u z J<|lhx 0 5 g1 J ?_
  obtain⟨V,M,h⟩:=bs h
  refine lp (kK A J J (fun W hw=>B hw.frB hw.fro H (h1.y hw.up) (K.y hw.up) (L.y hw.up) M)) J<|en ?_
  refine ch h J ?_ ?_ <;> intro h
  ·refine att 5 [] J ?_
   exact rt y h
  refine att 6 [] J ?_
  exact lb [] [] (G _ h)
 refine att 5 [] J ?_
 exact rt y h
theorem wl (w0:aD e a []) (b:af) (c:ByteArray) (m:RSl cS 3 e l f b.Pats) (q:RSl cH 11 e o k b.Conds) (s:RSl hU 5 e p j b.Acts) (d:e ai=some (.cells #[.string c] 9 (0,0))) {r:Bool} (h:jC N b c=some r) :
  CB w0 prog 170 [.agg [.string b.Name,iV b.Sal,f,k,j].toArray,pQ ai] (.bool r):=by
 refine eN func170 J ntmps170 J w0 fun i=>?_
 unfold jC at h
 refine sr<|lbx J fun t=>arr 6 [0,0] J<|lhx 0 0 (bP d) J<|art 3 [] J ?_
 exact rt i h
theorem zj (w0:aD e a []) (c:bv) (d:ByteArray) (i:RSl fb 5 e l f c.Rules) {r:Int} (h:po N c d=some r) :
  CB w0 prog 99 [.agg [.string c.Name,f].toArray,.string d] (iV r):=by
 refine eN func99 J ntmps99 J w0 fun m=>?_
 unfold po at h
 refine sr<|lbx J fun s=>?_
 refine ln (wM (C:=#[.string d]) J (J)) J (fun x=>?_)
 refine arr 6 [1,32] J ?_
 refine WL.frz (js:=[0]) (R:=[(s,.cells #[.string c.Name,f] 26 (0,0))]) J (fun y A t=>?_)
 refine lq (xV J) J<|qz h (fun b z q=>mi N b c.Rules (fun a0=>jC N a0 d) (i.y z) Jn (fun u v a0=>fun f0 f1 f2=>fun w=>wl N (ba v) a0 d f0 f1 f2 (u _ _ NS t) w) q) J J J fun B h=>la J<|en ?_
 exact rt m h
theorem rH (w0:aD e a []) (b:bv) (q:RSl fb 5 e l f b.Rules) {r:Bool} (h:mX N b=some r) :
  CB w0 prog 40 [.agg [.string b.Name,f].toArray] (.bool r):=by
 refine eN func40 J ntmps40 J w0 fun t=>?_
 unfold mX at h
 refine sr<|lbx J fun i=>arr 7 [0,0] J<|qc h (jE N · b.Name ·) J J J fun D h=>arr 2 [] J ?_
 obtain⟨y,c,h⟩:=bs h
 refine WL.cutN 6 [(15,.bool y),(1,pQ i)] ?_ (fun K=>?_)
 rotate_left
 ·refine sp 9 c J (fun c=>?_) fun c=>?_
  ·refine arr 6 [] J ?_
   cases c
   exact ku K
  ·refine arr 2 [1,0] J<|ly J J<|lnr q J<|ly J J<|qc c (dA N · (b.Rules.length:Int) 1 12 ·) J J J fun E c=>arr 2 [] J ?_
   cases c
   exact ku K
 refine en ?_
 refine ch h J ?_ ?_ <;> intro h
 ·refine att 4 [] J ?_
  exact rt t h
 refine atr 6 [1,0] J<|lnr q J<|art 3 [] J ?_
 refine lin (σ:=Int) (fun s=>[(1,pQ i),(17,f),(18,iV (b.Rules.length:Int)),(19,iV s)]) (fun s=>St w0 a [(i,.cells #[.string b.Name,f] 26 (0,0))] []) (fun m s=>gF N b m s=some r) (0) N h (sx [] [0]) (fun z A s hm=>?_)
 revert hm;revert s;intro s1 hm
 have h:gF N b (z+1) s1=some r:=hm
 show WT _ _ [(1,pQ i),(17,f),(18,iV (b.Rules.length:Int)),(19,iV s1)] (St w0 a [(i,.cells #[.string b.Name,f] 26 (0,0))] [])
 unfold gF at h
 refine att 5 [] J ?_
 refine ch h J ?_ ?_ <;> intro h
 ·refine atr 6 [] J ?_
  obtain⟨u,v,h⟩:=bs h
  obtain⟨F,G,-,g1,H,I,B⟩:=q.el (a8 v).2.2
  obtain⟨v1,L,v2,M,v3,O,rfl,rfl,h1,w,x⟩:=B
  refine lia q v J<|lhx 0 5 g1 J<|lnz uY J fun P=>la J<|soN 0 yh J ⟨J,J,h1.one,w.one,x.one,trivial⟩ J ?_
  refine arr 4 [5] J<|qd h (zF N · u h1 w x ·) J J J fun Q h=>arr 2 [] J ?_
  obtain⟨C,d,h⟩:=bs h
  refine WL.cutN 7 [(34,.bool C),(1,pQ i),(17,f),(18,iV (b.Rules.length:Int)),(19,iV s1)] ?_ (fun K=>?_)
  rotate_left
  ·refine sp 27 d J (fun d=>?_) fun d=>?_
   ·refine arr 7 [] J ?_
    cases d
    exact ku K
   ·refine arr 3 [34,0,0] J<|ly J J<|qd d (zj N · b u.Name q ·) J J J fun R d=>arr 3 [] J ?_
    cases d
    exact ku K
  refine en ?_
  refine ch h J ?_ ?_ <;> intro h
  ·refine att 4 [] J ?_
   exact rt t h
  refine att 6 [] J ?_
  exact lb [] [1] (A _ h)
 refine att 5 [] J ?_
 exact rt t h
theorem tS (w0:aD e a []) (b:aI) (d:RSl aU 3 e l f b.Fields) {r:Bool} (h:mQ N b=some r) :
  CB w0 prog 63 [.agg [.string b.Kind,f].toArray] (.bool r):=by
 refine eN func63 J ntmps63 J w0 fun i=>?_
 unfold mQ at h
 refine sr<|lbx J fun t=>arr 7 [0,0] J<|qc h (jE N · b.Kind ·) J J J fun z h=>arr 2 [] J ?_
 obtain⟨u,c,h⟩:=bs h
 refine WL.cutN 5 [(14,.bool u),(1,pQ t)] ?_ (fun K=>?_)
 rotate_left
 ·refine sp 9 c J (fun c=>?_) fun c=>?_
  ·refine arr 5 [] J ?_
   cases c
   exact ku K
  ·refine arr 2 [1,0] J<|ly J J<|lnr d J<|arr 2 [] J ?_
   cases c
   exact ku K
 refine en ?_
 refine ch h J ?_ ?_ <;> intro h
 ·refine att 4 [] J ?_
  exact rt i h
 refine atr 6 [1,0] J<|lnr d J<|art 3 [] J ?_
 refine lin (σ:=Int) (fun s=>[(16,f),(17,iV (b.Fields.length:Int)),(18,iV s)]) (fun s=>St w0 a [] []) (fun m s=>fF N b m s=some r) (0) N h (sx [] []) (fun v w s hm=>?_)
 revert hm;revert s;intro s1 hm
 have h:fF N b (v+1) s1=some r:=hm
 show WT _ _ [(16,f),(17,iV (b.Fields.length:Int)),(18,iV s1)] (St w0 a [] [])
 unfold fF at h
 refine att 5 [] J ?_
 refine ch h J ?_ ?_ <;> intro h
 ·refine atr 5 [] J ?_
  obtain⟨x,q,h⟩:=bs h
  obtain⟨A,B,-,g1,C,D,y⟩:=d.el (a8 q).2.2
  obtain⟨rfl,-⟩:=y
  refine lia d q J<|lhx 0 3 g1 J<|lnz jY J fun E=>soN 0 pL J ⟨J,J,J,trivial⟩ J ?_
  refine arr 4 [3] J<|qc h (vr N · x ·) J J J fun F h=>la J<|en ?_
  refine ch h J ?_ ?_ <;> intro h
  ·refine att 4 [] J ?_
   exact rt i h
  refine att 6 [] J ?_
  exact lb [] [] (w _ h)
 refine att 5 [] J ?_
 exact rt i h
theorem ko (w0:aD e a []) (b:(List bN)) (c:(List bN)) (d:RSl aU 3 e a1 g b) (t:RSl aU 3 e ad n c) {r:Bool} (h:cG N b c=some r) :
  CB w0 prog 129 [g,n] (.bool r):=by
 refine eN func129 J ntmps129 J w0 fun u=>?_
 unfold cG at h
 refine atr 8 [] J<|lnr d J<|la J<|lnr t J<|la J<|en ?_
 refine ch h J ?_ ?_ <;> intro h
 ·refine att 4 [] J ?_
  exact rt u h
 refine atr 5 [] J<|lnr d J<|art 3 [] J ?_
 refine lin (σ:=Int) (fun s=>[(0,g),(1,n),(12,iV (b.length:Int)),(13,iV s)]) (fun s=>St w0 a [] []) (fun m s=>bD N b c m s=some r) (0) N h (sx [] []) (fun x y s hm=>?_)
 revert hm;revert s;intro s1 hm
 have h:bD N b c (x+1) s1=some r:=hm
 show WT _ _ [(0,g),(1,n),(12,iV (b.length:Int)),(13,iV s1)] (St w0 a [] [])
 unfold bD at h
 refine att 5 [] J ?_
 refine ch h J ?_ ?_ <;> intro h
 ·refine att 9 [] J<|WT.draw mixed NQ (fun _ h=>h.drew)<|aqq 2 [] J ?_
  obtain⟨i,v,h⟩:=bs h
  obtain⟨C,D,-,g1,E,F,z⟩:=d.el (a8 v).2.2
  obtain⟨rfl,-⟩:=z
  refine qq (an iX J J d v) J<|qq (aw l6 J (fun A hw=>(g1.of_eq 0 3 J J:rg _ _ _ [iV i.K,iV i.N,.string i.S]).rangeAt hw.in0) J) J<|aqq 2 [] J ?_
  obtain⟨q,w,h⟩:=bs h
  obtain⟨G,H,-,g2,I,K,B⟩:=t.el (a8 w).2.2
  obtain⟨rfl,-⟩:=B
  refine qq (an iX J J t w) J<|qq (aw l6 J (fun A hw=>(g2.of_eq 0 3 J J:rg _ _ _ [iV q.K,iV q.N,.string q.S]).rangeAt hw.in0) J) J<|qq (tH oe J J J (r:=bQ i q) J) J<|WQ.nil ?_
  refine ch h J ?_ ?_ <;> intro h
  ·refine att 4 [] J ?_
   exact rt u h
  refine att 6 [] J ?_
  exact lb [] [] (y _ h)
 refine att 5 [] J ?_
 exact rt u h
theorem rV (w0:aD e a []) (c:aI) (d:aI) (i:RSl aU 3 e l f c.Fields) (m:RSl aU 3 e pG1_0 a6 d.Fields) {r:Bool} (h:kI N c d=some r) :
  CB w0 prog 65 [.agg [.string c.Kind,f].toArray,.agg [.string d.Kind,a6].toArray] (.bool r):=by
 refine eN func65 J ntmps65 J w0 fun q=>?_
 unfold kI at h
 refine sr<|lbx J fun t=>lbx J fun u=>arr 10 [0,32,0,0] J ?_
 obtain⟨s,b,h⟩:=bs h
 refine WL.cutN 6 [(16,.bool s),(4,.bool false)] ?_ (fun K=>?_)
 rotate_left
 ·refine sp 10 b J (fun b=>?_) fun b=>?_
  ·refine arr 4 [1,32,1,0] J<|ly J J<|qd b (ko N · c.Fields d.Fields i m ·) J J J fun v b=>la J ?_
   cases b
   exact ku K
  ·refine arr 6 [] J ?_
   cases b
   exact ku K
 refine la J<|en ?_
 exact rt q h
end Go.Proofs.YtedmfnmbjglmbaaGreat
